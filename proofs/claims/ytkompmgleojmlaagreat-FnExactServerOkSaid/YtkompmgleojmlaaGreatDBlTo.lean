import Derived.Test.YtkompmgleojmlaaGreatDLawA
set_option linter.unusedSimpArgs false
set_option linter.unusedVariables false
set_option maxRecDepth 100000
set_option maxHeartbeats 4000000
namespace Go.Proofs.YtkompmgleojmlaaGreat
open Go.ChangeShapes Go.WideShapes Go.ChangeAt Go.RowKit Go.Joins Go.Deep
open GoRep (rep bulk)
abbrev Ze8 (a:List ByteArray):Prop:=bulk a≤1048576
def ZrC (a:List ByteArray):Nat→List AV→Mem→Za3
  | 3,tm,M=>⟨Nat,fun y=>(Zb2 (Zcx tm [(4, .c (.int .i64 ((y:Nat):Int)))]) 8 13,ZrZ M [(0, .row ZaL (List.take y a ++ List.replicate (List.length a - y) (⟨#[]⟩:ByteArray)) 0 0 none)]),fun y=>(y≤List.length a),fun y=>(List.length a - y)⟩
  | _,_,_=>⟨Unit,fun _=>([],[]),fun _=>False,fun _=>0⟩
theorem ZrD (a:List ByteArray) (hpre:Ze8 a):Zai Tryz.prog 290 [.c (.hs .no ZaL a)] (.c (.row 0 0)) [.row ZaL a 0 0 none]:=by
  refine bc0 [] [] [] [] (ZrC a) Tryz.func290 (fun hwf=>?_)
  refine Eq.mpr (β:=(T3 ((((List.length a:Int):Int)=(List.length a:Int)∧(0:Int)≤(List.length a:Int)∧((List.length a:Int):Int)≤(rowMax:Int))∧(T2 ((∃ q:Nat,(q≤List.length a)∧((lxs [hn ZaL a, .tp [], .c (.raw (.slice none 0 0)), .c (.row 0 0)] (vI 0 q∧lxs [hn ZaL a,ci (List.length a), .c (.row 0 0)] (TN 13 (lxs [.tp []] True))))∧pt (leB (.row ZaL (List.replicate (List.length a) (⟨#[]⟩:ByteArray)) 0 0 none) (.row ZaL (List.take q a ++ List.replicate (List.length a - q) (⟨#[]⟩:ByteArray)) 0 0 none)∧True)))∧∀ y0:Nat,(y0≤List.length a)→(T4 (bif (ltI y0 (List.length a)) then (T4 ((ix 1 y0 (List.length a))∧(True∧((ix 1 y0 (List.length (List.take y0 a ++ List.replicate (List.length a - y0) (⟨#[]⟩:ByteArray))))∧(True∧∀ r1:List ByteArray,r1=(List.set (List.take y0 a ++ List.replicate (List.length a - y0) (⟨#[]⟩:ByteArray)) y0 (Zas a y0))→(T3 (∃ y0' : Nat,(y0'≤List.length a)∧(List.length a - y0') < (List.length a - y0)∧((lxs [hn ZaL a, .tp [], .c (.raw (.slice none 0 0)), .c (.row 0 0)] (vI (w64 ((y0:Int) + 1)) y0'∧lxs [hn ZaL a,ci (List.length a), .c (.row 0 0)] (TN 13 (lxs [.tp []] True))))∧pt (leB (.row ZaL r1 0 0 none) (.row ZaL (List.take y0' a ++ List.replicate (List.length a - y0') (⟨#[]⟩:ByteArray)) 0 0 none)∧True))))))))) else (T2 (pt ((List.take y0 a ++ List.replicate (List.length a - y0) (⟨#[]⟩:ByteArray))=a)))))))))) (by kernel_rfl) ?_
  unfold T2 T3 T4
  have hp:bulk a≤1048576:=hpre
  have hb:bulk a=a.length + Zar a:=rfl
  simp only [SIA,eq_self]
  refine ⟨⟨by omega,by unfold rowMax; omega⟩,⟨0,Nat.zero_le _,rfl,Eq.mpr (Za6 (t:=ZaL)) rfl⟩,fun k hk=>⟨fun hlt=>?_,fun hge=>?_⟩⟩
  · have hlt:k < a.length:=by omega
    have hk:=Zap (t:=ZaL) hlt
    have hl:(List.take k a ++ List.replicate (List.length a - k) (⟨#[]⟩:ByteArray)).length=a.length:=by simp; omega
    have hbn:bulk (Zas a k)≤Zar a:=Zf1 hk
    refine ⟨⟨by omega,by omega⟩,⟨by omega,by rw [hl]; omega⟩,fun r1 hr=>⟨k + 1,hlt,by omega,Zbj (by unfold maxLen; omega),Eq.mpr (Za6 (t:=ZaL)) ?_⟩⟩
    exact Zer
  · exact Zeq
def ZrE:Zat Tryz.prog:=⟨290,[.v (.list ZaL)],fun x=>Ze8 x.1,fun x=>.c (.row 0 0),fun x=>[.row ZaL x.1 0 0 none],fun x hx=>ZrD x.1 hx,Tryz.call290⟩
abbrev ZgY (a:ZaK):Prop:=bulk a≤1048576
theorem ZyH (a:ZaK) (hpre:ZgY a):Zai Tryz.prog 266 [.ag [.int .i64 a.1, .hs .no ZaL a.2.1, .int .i64 a.2.2]] (.ag [.int .i64 a.1, .row 0 0, .int .i64 a.2.2]) [.row ZaL a.2.1 0 0 none]:=by
  refine bc0 [ZrE] [] [] [] L0 Tryz.func266 (fun hwf=>?_)
  refine Eq.mpr (β:=(T9 ((pt (Ze8 a.2.1))∧(T8 (pt (((cI a.1 a.1)∧(a.2.1=a.2.1)∧(cI a.2.2 a.2.2)∧True))))))) (by kernel_rfl) ?_
  have hp:bulk a≤1048576:=hpre
  have hb:bulk a=0 + (bulk a.2.1 + (0)):=rfl
  exact ZbU
def ZyI:Zat Tryz.prog:=⟨266,[.s Zak],fun x=>ZgY x.1,fun x=>.ag [.int .i64 x.1.1, .row 0 0, .int .i64 x.1.2.2],fun x=>[.row ZaL x.1.2.1 0 0 none],fun x hx=>ZyH x.1 hx,Tryz.call266⟩
abbrev Zf8 (a:List ZaK):Prop:=bulk a≤1048576
def Zto (a:List ZaK):Nat→List AV→Mem→Za3
  | 3,tm,M=>⟨Nat,fun y=>(Zb2 (Zcx tm [(4, .c (.int .i64 ((y:Nat):Int)))]) 8 14,ZrZ M [(0, .row Zak (List.take y a ++ List.replicate (List.length a - y) Zh9) 0 0 none)]),fun y=>(y≤List.length a),fun y=>(List.length a - y)⟩
  | _,_,_=>⟨Unit,fun _=>([],[]),fun _=>False,fun _=>0⟩
theorem Ztp (a:List ZaK) (hpre:Zf8 a):Zai Tryz.prog 225 [.c (.hs .no Zak a)] (.c (.row 0 0)) [.row Zak a 0 0 none]:=by
  refine bc0 [ZyI] [] [] [] (Zto a) Tryz.func225 (fun hwf=>?_)
  refine Eq.mpr (β:=(T3 ((((List.length a:Int):Int)=(List.length a:Int)∧(0:Int)≤(List.length a:Int)∧((List.length a:Int):Int)≤(rowMax:Int))∧(T2 ((∃ q:Nat,(q≤List.length a)∧((lxs [hn Zak a, .tp [], .c (.raw (.slice none 0 0)), .c (.row 0 0)] (vI 0 q∧lxs [hn Zak a,ci (List.length a), .c (.row 0 0)] (TN 14 (lxs [.tp []] True))))∧pt (leB (.row Zak (List.replicate (List.length a) Zh9) 0 0 none) (.row Zak (List.take q a ++ List.replicate (List.length a - q) Zh9) 0 0 none)∧True)))∧∀ y0:Nat,(y0≤List.length a)→(T4 (bif (ltI y0 (List.length a)) then (T4 ((ix 3 y0 (List.length a))∧(True∧((pt (ZgY (Zav a y0)))∧((ix 3 y0 (List.length (List.take y0 a ++ List.replicate (List.length a - y0) Zh9)))∧(True∧∀ r1:List ZaK,r1=(List.set (List.take y0 a ++ List.replicate (List.length a - y0) Zh9) y0 (Zav a y0))→(T3 (∃ y0' : Nat,(y0'≤List.length a)∧(List.length a - y0') < (List.length a - y0)∧((lxs [hn Zak a, .tp [], .c (.raw (.slice none 0 0)), .c (.row 0 0)] (vI (w64 ((y0:Int) + 1)) y0'∧lxs [hn Zak a,ci (List.length a), .c (.row 0 0)] (TN 14 (lxs [.tp []] True))))∧pt (leB (.row Zak r1 0 0 none) (.row Zak (List.take y0' a ++ List.replicate (List.length a - y0') Zh9) 0 0 none)∧True)))))))))) else (T2 (pt ((List.take y0 a ++ List.replicate (List.length a - y0) Zh9)=a)))))))))) (by kernel_rfl) ?_
  unfold T2 T3 T4
  have hp:bulk a≤1048576:=hpre
  have hb:bulk a=a.length + Zar a:=rfl
  simp only [SIA,eq_self]
  refine ⟨⟨by omega,by unfold rowMax; omega⟩,⟨0,Nat.zero_le _,rfl,Eq.mpr (Za6 (t:=Zak)) rfl⟩,fun k hk=>⟨fun hlt=>?_,fun hge=>?_⟩⟩
  · have hlt:k < a.length:=by omega
    have hk:=Zap (t:=Zak) hlt
    have hl:(List.take k a ++ List.replicate (List.length a - k) Zh9).length=a.length:=by simp; omega
    have hbn:bulk (Zav a k)≤Zar a:=Zf1 hk
    refine ⟨⟨by omega,by omega⟩,by show bulk _≤_; omega,⟨by omega,by rw [hl]; omega⟩,fun r1 hr=>⟨k + 1,hlt,by omega,Zbj (by unfold maxLen; omega),Eq.mpr (Za6 (t:=Zak)) ?_⟩⟩
    exact Zer
  · exact Zeq
def Ztq:Zat Tryz.prog:=⟨225,[.v (.list Zak)],fun x=>Zf8 x.1,fun x=>.c (.row 0 0),fun x=>[.row Zak x.1 0 0 none],fun x hx=>Ztp x.1 hx,Tryz.call225⟩
abbrev Zf9 (a:Zby):Prop:=bulk a≤1048576
theorem Ztr (a:Zby) (hpre:Zf9 a):Zai Tryz.prog 162 [.ag [.bool a.1, .hs .no Zak a.2]] (.ag [.bool a.1, .row 0 0]) [.row Zak a.2 0 0 none]:=by
  refine bc0 [Ztq] [] [] [] L0 Tryz.func162 (fun hwf=>?_)
  refine Eq.mpr (β:=(T9 ((pt (Zf8 a.2))∧(T4 (pt (((cB a.1 a.1)∧(a.2=a.2)∧True))))))) (by kernel_rfl) ?_
  have hp:bulk a≤1048576:=hpre
  have hb:bulk a=0 + (bulk a.2):=rfl
  exact ZbU
def Zts:Zat Tryz.prog:=⟨162,[.s ZcG],fun x=>Zf9 x.1,fun x=>.ag [.bool x.1.1, .row 0 0],fun x=>[.row Zak x.1.2 0 0 none],fun x hx=>Ztr x.1 hx,Tryz.call162⟩
theorem ZDq (a:Zc7):Zai Tryz.prog 264 [.ag [.int .i64 a.1, .int .i64 a.2.1, .str a.2.2]] (.ag [.int .i64 a.1, .int .i64 a.2.1, .str a.2.2]) []:=by
  refine bc0 [] [] [] [] L0 Tryz.func264 (fun hwf=>?_)
  refine Eq.mpr (β:=(T12 (T5 (pt (((cI a.1 a.1)∧(cI a.2.1 a.2.1)∧(cS a.2.2 a.2.2)∧True)))))) (by kernel_rfl) ?_
  exact ZbU
def ZDr:Zat Tryz.prog:=⟨264,[.s ZaF],fun x=>True,fun x=>.ag [.int .i64 x.1.1, .int .i64 x.1.2.1, .str x.1.2.2],fun _=>[],fun x hx=>ZDq x.1,Tryz.call264⟩
abbrev ZhO (a:List Zc7):Prop:=bulk a≤1048576
def ZBr (a:List Zc7):Nat→List AV→Mem→Za3
  | 3,tm,M=>⟨Nat,fun y=>(Zb2 (Zcx tm [(4, .c (.int .i64 ((y:Nat):Int)))]) 8 14,ZrZ M [(0, .row ZaF (List.take y a ++ List.replicate (List.length a - y) Zt7) 0 0 none)]),fun y=>(y≤List.length a),fun y=>(List.length a - y)⟩
  | _,_,_=>⟨Unit,fun _=>([],[]),fun _=>False,fun _=>0⟩
theorem ZBs (a:List Zc7) (hpre:ZhO a):Zai Tryz.prog 223 [.c (.hs .no ZaF a)] (.c (.row 0 0)) [.row ZaF a 0 0 none]:=by
  refine bc0 [ZDr] [] [] [] (ZBr a) Tryz.func223 (fun hwf=>?_)
  refine Eq.mpr (β:=(T3 ((((List.length a:Int):Int)=(List.length a:Int)∧(0:Int)≤(List.length a:Int)∧((List.length a:Int):Int)≤(rowMax:Int))∧(T2 ((∃ q:Nat,(q≤List.length a)∧((lxs [hn ZaF a, .tp [], .c (.raw (.slice none 0 0)), .c (.row 0 0)] (vI 0 q∧lxs [hn ZaF a,ci (List.length a), .c (.row 0 0)] (TN 14 (lxs [.tp []] True))))∧pt (leB (.row ZaF (List.replicate (List.length a) Zt7) 0 0 none) (.row ZaF (List.take q a ++ List.replicate (List.length a - q) Zt7) 0 0 none)∧True)))∧∀ y0:Nat,(y0≤List.length a)→(T4 (bif (ltI y0 (List.length a)) then (T4 ((ix 3 y0 (List.length a))∧(True∧((pt True)∧((ix 3 y0 (List.length (List.take y0 a ++ List.replicate (List.length a - y0) Zt7)))∧(True∧∀ r1:List Zc7,r1=(List.set (List.take y0 a ++ List.replicate (List.length a - y0) Zt7) y0 (Zay a y0))→(T3 (∃ y0' : Nat,(y0'≤List.length a)∧(List.length a - y0') < (List.length a - y0)∧((lxs [hn ZaF a, .tp [], .c (.raw (.slice none 0 0)), .c (.row 0 0)] (vI (w64 ((y0:Int) + 1)) y0'∧lxs [hn ZaF a,ci (List.length a), .c (.row 0 0)] (TN 14 (lxs [.tp []] True))))∧pt (leB (.row ZaF r1 0 0 none) (.row ZaF (List.take y0' a ++ List.replicate (List.length a - y0') Zt7) 0 0 none)∧True)))))))))) else (T2 (pt ((List.take y0 a ++ List.replicate (List.length a - y0) Zt7)=a)))))))))) (by kernel_rfl) ?_
  unfold T2 T3 T4
  have hp:bulk a≤1048576:=hpre
  have hb:bulk a=a.length + Zar a:=rfl
  simp only [SIA,eq_self]
  refine ⟨⟨by omega,by unfold rowMax; omega⟩,⟨0,Nat.zero_le _,rfl,Eq.mpr (Za6 (t:=ZaF)) rfl⟩,fun k hk=>⟨fun hlt=>?_,fun hge=>?_⟩⟩
  · have hlt:k < a.length:=by omega
    have hk:=Zap (t:=ZaF) hlt
    have hl:(List.take k a ++ List.replicate (List.length a - k) Zt7).length=a.length:=by simp; omega
    have hbn:bulk (Zay a k)≤Zar a:=Zf1 hk
    refine ⟨⟨by omega,by omega⟩,⟨by omega,by rw [hl]; omega⟩,fun r1 hr=>⟨k + 1,hlt,by omega,Zbj (by unfold maxLen; omega),Eq.mpr (Za6 (t:=ZaF)) ?_⟩⟩
    exact Zer
  · exact Zeq
def ZBt:Zat Tryz.prog:=⟨223,[.v (.list ZaF)],fun x=>ZhO x.1,fun x=>.c (.row 0 0),fun x=>[.row ZaF x.1 0 0 none],fun x hx=>ZBs x.1 hx,Tryz.call223⟩
abbrev ZjD (a:Zaw):Prop:=bulk a≤1048576
theorem ZDs (a:Zaw) (hpre:ZjD a):Zai Tryz.prog 159 [.ag (cellsOf Zaf a)] (.ag [.str a.1, .int .i64 a.2.1, .int .i64 a.2.2.1, .row 0 0]) [.row ZaF a.2.2.2 0 0 none]:=by
  refine bc0 [ZBt] [] [] [] L0 Tryz.func159 (fun hwf=>?_)
  refine Eq.mpr (β:=(T12 (T5 ((pt (ZhO a.2.2.2))∧(T4 (pt (((cS a.1 a.1)∧(cI a.2.1 a.2.1)∧(cI a.2.2.1 a.2.2.1)∧(a.2.2.2=a.2.2.2)∧True)))))))) (by kernel_rfl) ?_
  have hp:bulk a≤1048576:=hpre
  have hb:bulk a=ByteArray.size a.1 + (0 + (0 + (bulk a.2.2.2))):=rfl
  exact ZbU
def ZDt:Zat Tryz.prog:=⟨159,[.s Zaf],fun x=>ZjD x.1,fun x=>.ag [.str x.1.1, .int .i64 x.1.2.1, .int .i64 x.1.2.2.1, .row 0 0],fun x=>[.row ZaF x.1.2.2.2 0 0 none],fun x hx=>ZDs x.1 hx,Tryz.call159⟩
abbrev ZhP (a:List Zaw):Prop:=bulk a≤1048576
def ZBu (a:List Zaw):Nat→List AV→Mem→Za3
  | 3,tm,M=>⟨Nat,fun y=>(Zb2 (Zcx tm [(4, .c (.int .i64 ((y:Nat):Int)))]) 8 14,ZrZ M [(0, .row Zaf (List.take y a ++ List.replicate (List.length a - y) Zn5) 0 0 none)]),fun y=>(y≤List.length a),fun y=>(List.length a - y)⟩
  | _,_,_=>⟨Unit,fun _=>([],[]),fun _=>False,fun _=>0⟩
theorem ZBv (a:List Zaw) (hpre:ZhP a):Zai Tryz.prog 86 [.c (.hs .no Zaf a)] (.c (.row 0 0)) [.row Zaf a 0 0 none]:=by
  refine bc0 [ZDt] [] [] [] (ZBu a) Tryz.func86 (fun hwf=>?_)
  refine Eq.mpr (β:=(T3 ((((List.length a:Int):Int)=(List.length a:Int)∧(0:Int)≤(List.length a:Int)∧((List.length a:Int):Int)≤(rowMax:Int))∧(T2 ((∃ q:Nat,(q≤List.length a)∧((lxs [hn Zaf a, .tp [], .c (.raw (.slice none 0 0)), .c (.row 0 0)] (vI 0 q∧lxs [hn Zaf a,ci (List.length a), .c (.row 0 0)] (TN 14 (lxs [.tp []] True))))∧pt (leB (.row Zaf (List.replicate (List.length a) Zn5) 0 0 none) (.row Zaf (List.take q a ++ List.replicate (List.length a - q) Zn5) 0 0 none)∧True)))∧∀ y0:Nat,(y0≤List.length a)→(T4 (bif (ltI y0 (List.length a)) then (T4 ((ix 4 y0 (List.length a))∧(True∧((pt (ZjD (Zaa a y0)))∧((ix 4 y0 (List.length (List.take y0 a ++ List.replicate (List.length a - y0) Zn5)))∧(True∧∀ r1:List Zaw,r1=(List.set (List.take y0 a ++ List.replicate (List.length a - y0) Zn5) y0 (Zaa a y0))→(T3 (∃ y0' : Nat,(y0'≤List.length a)∧(List.length a - y0') < (List.length a - y0)∧((lxs [hn Zaf a, .tp [], .c (.raw (.slice none 0 0)), .c (.row 0 0)] (vI (w64 ((y0:Int) + 1)) y0'∧lxs [hn Zaf a,ci (List.length a), .c (.row 0 0)] (TN 14 (lxs [.tp []] True))))∧pt (leB (.row Zaf r1 0 0 none) (.row Zaf (List.take y0' a ++ List.replicate (List.length a - y0') Zn5) 0 0 none)∧True)))))))))) else (T2 (pt ((List.take y0 a ++ List.replicate (List.length a - y0) Zn5)=a)))))))))) (by kernel_rfl) ?_
  unfold T2 T3 T4
  have hp:bulk a≤1048576:=hpre
  have hb:bulk a=a.length + Zar a:=rfl
  simp only [SIA,eq_self]
  refine ⟨⟨by omega,by unfold rowMax; omega⟩,⟨0,Nat.zero_le _,rfl,Eq.mpr (Za6 (t:=Zaf)) rfl⟩,fun k hk=>⟨fun hlt=>?_,fun hge=>?_⟩⟩
  · have hlt:k < a.length:=by omega
    have hk:=Zap (t:=Zaf) hlt
    have hl:(List.take k a ++ List.replicate (List.length a - k) Zn5).length=a.length:=by simp; omega
    have hbn:bulk (Zaa a k)≤Zar a:=Zf1 hk
    refine ⟨⟨by omega,by omega⟩,by show bulk _≤_; omega,⟨by omega,by rw [hl]; omega⟩,fun r1 hr=>⟨k + 1,hlt,by omega,Zbj (by unfold maxLen; omega),Eq.mpr (Za6 (t:=Zaf)) ?_⟩⟩
    exact Zer
  · exact Zeq
def ZBw:Zat Tryz.prog:=⟨86,[.v (.list Zaf)],fun x=>ZhP x.1,fun x=>.c (.row 0 0),fun x=>[.row Zaf x.1 0 0 none],fun x hx=>ZBv x.1 hx,Tryz.call86⟩
theorem Ztt (a:Zam):Zai Tryz.prog 160 [.ag (cellsOf Zae a)] (.ag [.int .i64 a.1, .int .i64 a.2.1, .int .i64 a.2.2.1, .int .i64 a.2.2.2.1, .str a.2.2.2.2.1, .str a.2.2.2.2.2]) []:=by
  refine bc0 [] [] [] [] L0 Tryz.func160 (fun hwf=>?_)
  refine Eq.mpr (β:=(T12 (T12 (T5 (pt (((cI a.1 a.1)∧(cI a.2.1 a.2.1)∧(cI a.2.2.1 a.2.2.1)∧(cI a.2.2.2.1 a.2.2.2.1)∧(cS a.2.2.2.2.1 a.2.2.2.2.1)∧(cS a.2.2.2.2.2 a.2.2.2.2.2)∧True))))))) (by kernel_rfl) ?_
  exact ZbU
def Ztu:Zat Tryz.prog:=⟨160,[.s Zae],fun x=>True,fun x=>.ag [.int .i64 x.1.1, .int .i64 x.1.2.1, .int .i64 x.1.2.2.1, .int .i64 x.1.2.2.2.1, .str x.1.2.2.2.2.1, .str x.1.2.2.2.2.2],fun _=>[],fun x hx=>Ztt x.1,Tryz.call160⟩
abbrev Ze9 (a:List Zam):Prop:=bulk a≤1048576
def ZrF (a:List Zam):Nat→List AV→Mem→Za3
  | 3,tm,M=>⟨Nat,fun y=>(Zb2 (Zcx tm [(4, .c (.int .i64 ((y:Nat):Int)))]) 8 14,ZrZ M [(0, .row Zae (List.take y a ++ List.replicate (List.length a - y) ZfV) 0 0 none)]),fun y=>(y≤List.length a),fun y=>(List.length a - y)⟩
  | _,_,_=>⟨Unit,fun _=>([],[]),fun _=>False,fun _=>0⟩
theorem ZrG (a:List Zam) (hpre:Ze9 a):Zai Tryz.prog 87 [.c (.hs .no Zae a)] (.c (.row 0 0)) [.row Zae a 0 0 none]:=by
  refine bc0 [Ztu] [] [] [] (ZrF a) Tryz.func87 (fun hwf=>?_)
  refine Eq.mpr (β:=(T3 ((((List.length a:Int):Int)=(List.length a:Int)∧(0:Int)≤(List.length a:Int)∧((List.length a:Int):Int)≤(rowMax:Int))∧(T2 ((∃ q:Nat,(q≤List.length a)∧((lxs [hn Zae a, .tp [], .c (.raw (.slice none 0 0)), .c (.row 0 0)] (vI 0 q∧lxs [hn Zae a,ci (List.length a), .c (.row 0 0)] (TN 14 (lxs [.tp []] True))))∧pt (leB (.row Zae (List.replicate (List.length a) ZfV) 0 0 none) (.row Zae (List.take q a ++ List.replicate (List.length a - q) ZfV) 0 0 none)∧True)))∧∀ y0:Nat,(y0≤List.length a)→(T4 (bif (ltI y0 (List.length a)) then (T4 ((ix 6 y0 (List.length a))∧(True∧((pt True)∧((ix 6 y0 (List.length (List.take y0 a ++ List.replicate (List.length a - y0) ZfV)))∧(True∧∀ r1:List Zam,r1=(List.set (List.take y0 a ++ List.replicate (List.length a - y0) ZfV) y0 (Zab a y0))→(T3 (∃ y0' : Nat,(y0'≤List.length a)∧(List.length a - y0') < (List.length a - y0)∧((lxs [hn Zae a, .tp [], .c (.raw (.slice none 0 0)), .c (.row 0 0)] (vI (w64 ((y0:Int) + 1)) y0'∧lxs [hn Zae a,ci (List.length a), .c (.row 0 0)] (TN 14 (lxs [.tp []] True))))∧pt (leB (.row Zae r1 0 0 none) (.row Zae (List.take y0' a ++ List.replicate (List.length a - y0') ZfV) 0 0 none)∧True)))))))))) else (T2 (pt ((List.take y0 a ++ List.replicate (List.length a - y0) ZfV)=a)))))))))) (by kernel_rfl) ?_
  unfold T2 T3 T4
  have hp:bulk a≤1048576:=hpre
  have hb:bulk a=a.length + Zar a:=rfl
  simp only [SIA,eq_self]
  refine ⟨⟨by omega,by unfold rowMax; omega⟩,⟨0,Nat.zero_le _,rfl,Eq.mpr (Za6 (t:=Zae)) rfl⟩,fun k hk=>⟨fun hlt=>?_,fun hge=>?_⟩⟩
  · have hlt:k < a.length:=by omega
    have hk:=Zap (t:=Zae) hlt
    have hl:(List.take k a ++ List.replicate (List.length a - k) ZfV).length=a.length:=by simp; omega
    have hbn:bulk (Zab a k)≤Zar a:=Zf1 hk
    refine ⟨⟨by omega,by omega⟩,⟨by omega,by rw [hl]; omega⟩,fun r1 hr=>⟨k + 1,hlt,by omega,Zbj (by unfold maxLen; omega),Eq.mpr (Za6 (t:=Zae)) ?_⟩⟩
    exact Zer
  · exact Zeq
def ZrH:Zat Tryz.prog:=⟨87,[.v (.list Zae)],fun x=>Ze9 x.1,fun x=>.c (.row 0 0),fun x=>[.row Zae x.1 0 0 none],fun x hx=>ZrG x.1 hx,Tryz.call87⟩
abbrev ZgZ (a:Zau):Prop:=bulk a≤1048576
theorem ZyJ (a:Zau) (hpre:ZgZ a):Zai Tryz.prog 35 [.ag (cellsOf Zbr a)] (.ag [.row 0 0, .row 1 0, .int .i64 a.2.2]) [.row Zaf a.1 0 0 none, .row Zae a.2.1 0 0 none]:=by
  refine bc0 [ZBw,ZrH] [] [] [] L0 Tryz.func35 (fun hwf=>?_)
  refine Eq.mpr (β:=(T5 ((pt (ZhP a.1))∧(T4 ((pt (Ze9 a.2.1))∧(T8 (pt (((a.1=a.1)∧(a.2.1=a.2.1)∧(cI a.2.2 a.2.2)∧True))))))))) (by kernel_rfl) ?_
  have hp:bulk a≤1048576:=hpre
  have hb:bulk a=bulk a.1 + (bulk a.2.1 + (0)):=rfl
  exact ZbU
def ZyK:Zat Tryz.prog:=⟨35,[.s Zbr],fun x=>ZgZ x.1,fun x=>.ag [.row 0 0, .row 1 0, .int .i64 x.1.2.2],fun x=>[.row Zaf x.1.1 0 0 none, .row Zae x.1.2.1 0 0 none],fun x hx=>ZyJ x.1 hx,Tryz.call35⟩
theorem ZBx (a:ZbB):Zai Tryz.prog 265 [.ag [.int .i64 a.1, .int .i64 a.2]] (.ag [.int .i64 a.1, .int .i64 a.2]) []:=by
  refine bc0 [] [] [] [] L0 Tryz.func265 (fun hwf=>?_)
  refine Eq.mpr (β:=(T12 (True∧(pt (((cI a.1 a.1)∧(cI a.2 a.2)∧True)))))) (by kernel_rfl) ?_
  exact ZbU
def ZBy:Zat Tryz.prog:=⟨265,[.s Zal],fun x=>True,fun x=>.ag [.int .i64 x.1.1, .int .i64 x.1.2],fun _=>[],fun x hx=>ZBx x.1,Tryz.call265⟩
abbrev Zg0 (a:List ZbB):Prop:=bulk a≤1048576
def ZyL (a:List ZbB):Nat→List AV→Mem→Za3
  | 3,tm,M=>⟨Nat,fun y=>(Zb2 (Zcx tm [(4, .c (.int .i64 ((y:Nat):Int)))]) 8 14,ZrZ M [(0, .row Zal (List.take y a ++ List.replicate (List.length a - y) ZlV) 0 0 none)]),fun y=>(y≤List.length a),fun y=>(List.length a - y)⟩
  | _,_,_=>⟨Unit,fun _=>([],[]),fun _=>False,fun _=>0⟩
theorem ZyM (a:List ZbB) (hpre:Zg0 a):Zai Tryz.prog 224 [.c (.hs .no Zal a)] (.c (.row 0 0)) [.row Zal a 0 0 none]:=by
  refine bc0 [ZBy] [] [] [] (ZyL a) Tryz.func224 (fun hwf=>?_)
  refine Eq.mpr (β:=(T3 ((((List.length a:Int):Int)=(List.length a:Int)∧(0:Int)≤(List.length a:Int)∧((List.length a:Int):Int)≤(rowMax:Int))∧(T2 ((∃ q:Nat,(q≤List.length a)∧((lxs [hn Zal a, .tp [], .c (.raw (.slice none 0 0)), .c (.row 0 0)] (vI 0 q∧lxs [hn Zal a,ci (List.length a), .c (.row 0 0)] (TN 14 (lxs [.tp []] True))))∧pt (leB (.row Zal (List.replicate (List.length a) ZlV) 0 0 none) (.row Zal (List.take q a ++ List.replicate (List.length a - q) ZlV) 0 0 none)∧True)))∧∀ y0:Nat,(y0≤List.length a)→(T4 (bif (ltI y0 (List.length a)) then (T4 ((ix 2 y0 (List.length a))∧(True∧((pt True)∧((ix 2 y0 (List.length (List.take y0 a ++ List.replicate (List.length a - y0) ZlV)))∧(True∧∀ r1:List ZbB,r1=(List.set (List.take y0 a ++ List.replicate (List.length a - y0) ZlV) y0 (ZaM a y0))→(T3 (∃ y0' : Nat,(y0'≤List.length a)∧(List.length a - y0') < (List.length a - y0)∧((lxs [hn Zal a, .tp [], .c (.raw (.slice none 0 0)), .c (.row 0 0)] (vI (w64 ((y0:Int) + 1)) y0'∧lxs [hn Zal a,ci (List.length a), .c (.row 0 0)] (TN 14 (lxs [.tp []] True))))∧pt (leB (.row Zal r1 0 0 none) (.row Zal (List.take y0' a ++ List.replicate (List.length a - y0') ZlV) 0 0 none)∧True)))))))))) else (T2 (pt ((List.take y0 a ++ List.replicate (List.length a - y0) ZlV)=a)))))))))) (by kernel_rfl) ?_
  unfold T2 T3 T4
  have hp:bulk a≤1048576:=hpre
  have hb:bulk a=a.length + Zar a:=rfl
  simp only [SIA,eq_self]
  refine ⟨⟨by omega,by unfold rowMax; omega⟩,⟨0,Nat.zero_le _,rfl,Eq.mpr (Za6 (t:=Zal)) rfl⟩,fun k hk=>⟨fun hlt=>?_,fun hge=>?_⟩⟩
  · have hlt:k < a.length:=by omega
    have hk:=Zap (t:=Zal) hlt
    have hl:(List.take k a ++ List.replicate (List.length a - k) ZlV).length=a.length:=by simp; omega
    have hbn:bulk (ZaM a k)≤Zar a:=Zf1 hk
    refine ⟨⟨by omega,by omega⟩,⟨by omega,by rw [hl]; omega⟩,fun r1 hr=>⟨k + 1,hlt,by omega,Zbj (by unfold maxLen; omega),Eq.mpr (Za6 (t:=Zal)) ?_⟩⟩
    exact Zer
  · exact Zeq
def ZyN:Zat Tryz.prog:=⟨224,[.v (.list Zal)],fun x=>Zg0 x.1,fun x=>.c (.row 0 0),fun x=>[.row Zal x.1 0 0 none],fun x hx=>ZyM x.1 hx,Tryz.call224⟩
abbrev ZhQ (a:ZCt):Prop:=bulk a≤1048576
theorem ZBz (a:List ZbB) (hpre:ZhQ a):Zai Tryz.prog 161 [.ag [.hs .no Zal a]] (.ag [.row 0 0]) [.row Zal a 0 0 none]:=by
  refine bc0 [ZyN] [] [] [] L0 Tryz.func161 (fun hwf=>?_)
  refine Eq.mpr (β:=(T5 ((pt (Zg0 a))∧(T4 (pt (((a=a)∧True))))))) (by kernel_rfl) ?_
  have hp:bulk a≤1048576:=hpre
  have hb:bulk a=bulk a:=rfl
  exact ZbU
def ZBA:Zat Tryz.prog:=⟨161,[.s (.list Zal)],fun x=>ZhQ x.1,fun x=>.ag [.row 0 0],fun x=>[.row Zal x.1 0 0 none],fun x hx=>ZBz x.1 hx,Tryz.call161⟩
theorem ZBB (a:Zaz):Zai Tryz.prog 267 [.ag (cellsOf Zah a)] (.ag [.int .i64 a.1, .int .i64 a.2.1, .int .i64 a.2.2.1, .str a.2.2.2]) []:=by
  refine bc0 [] [] [] [] L0 Tryz.func267 (fun hwf=>?_)
  refine Eq.mpr (β:=(T12 (T9 (pt (((cI a.1 a.1)∧(cI a.2.1 a.2.1)∧(cI a.2.2.1 a.2.2.1)∧(cS a.2.2.2 a.2.2.2)∧True)))))) (by kernel_rfl) ?_
  exact ZbU
def ZBC:Zat Tryz.prog:=⟨267,[.s Zah],fun x=>True,fun x=>.ag [.int .i64 x.1.1, .int .i64 x.1.2.1, .int .i64 x.1.2.2.1, .str x.1.2.2.2],fun _=>[],fun x hx=>ZBB x.1,Tryz.call267⟩
abbrev Zg1 (a:List Zaz):Prop:=bulk a≤1048576
def ZyO (a:List Zaz):Nat→List AV→Mem→Za3
  | 3,tm,M=>⟨Nat,fun y=>(Zb2 (Zcx tm [(4, .c (.int .i64 ((y:Nat):Int)))]) 8 14,ZrZ M [(0, .row Zah (List.take y a ++ List.replicate (List.length a - y) ZlW) 0 0 none)]),fun y=>(y≤List.length a),fun y=>(List.length a - y)⟩
  | _,_,_=>⟨Unit,fun _=>([],[]),fun _=>False,fun _=>0⟩
theorem ZyP (a:List Zaz) (hpre:Zg1 a):Zai Tryz.prog 226 [.c (.hs .no Zah a)] (.c (.row 0 0)) [.row Zah a 0 0 none]:=by
  refine bc0 [ZBC] [] [] [] (ZyO a) Tryz.func226 (fun hwf=>?_)
  refine Eq.mpr (β:=(T3 ((((List.length a:Int):Int)=(List.length a:Int)∧(0:Int)≤(List.length a:Int)∧((List.length a:Int):Int)≤(rowMax:Int))∧(T2 ((∃ q:Nat,(q≤List.length a)∧((lxs [hn Zah a, .tp [], .c (.raw (.slice none 0 0)), .c (.row 0 0)] (vI 0 q∧lxs [hn Zah a,ci (List.length a), .c (.row 0 0)] (TN 14 (lxs [.tp []] True))))∧pt (leB (.row Zah (List.replicate (List.length a) ZlW) 0 0 none) (.row Zah (List.take q a ++ List.replicate (List.length a - q) ZlW) 0 0 none)∧True)))∧∀ y0:Nat,(y0≤List.length a)→(T4 (bif (ltI y0 (List.length a)) then (T4 ((ix 4 y0 (List.length a))∧(True∧((pt True)∧((ix 4 y0 (List.length (List.take y0 a ++ List.replicate (List.length a - y0) ZlW)))∧(True∧∀ r1:List Zaz,r1=(List.set (List.take y0 a ++ List.replicate (List.length a - y0) ZlW) y0 (Zad a y0))→(T3 (∃ y0' : Nat,(y0'≤List.length a)∧(List.length a - y0') < (List.length a - y0)∧((lxs [hn Zah a, .tp [], .c (.raw (.slice none 0 0)), .c (.row 0 0)] (vI (w64 ((y0:Int) + 1)) y0'∧lxs [hn Zah a,ci (List.length a), .c (.row 0 0)] (TN 14 (lxs [.tp []] True))))∧pt (leB (.row Zah r1 0 0 none) (.row Zah (List.take y0' a ++ List.replicate (List.length a - y0') ZlW) 0 0 none)∧True)))))))))) else (T2 (pt ((List.take y0 a ++ List.replicate (List.length a - y0) ZlW)=a)))))))))) (by kernel_rfl) ?_
  unfold T2 T3 T4
  have hp:bulk a≤1048576:=hpre
  have hb:bulk a=a.length + Zar a:=rfl
  simp only [SIA,eq_self]
  refine ⟨⟨by omega,by unfold rowMax; omega⟩,⟨0,Nat.zero_le _,rfl,Eq.mpr (Za6 (t:=Zah)) rfl⟩,fun k hk=>⟨fun hlt=>?_,fun hge=>?_⟩⟩
  · have hlt:k < a.length:=by omega
    have hk:=Zap (t:=Zah) hlt
    have hl:(List.take k a ++ List.replicate (List.length a - k) ZlW).length=a.length:=by simp; omega
    have hbn:bulk (Zad a k)≤Zar a:=Zf1 hk
    refine ⟨⟨by omega,by omega⟩,⟨by omega,by rw [hl]; omega⟩,fun r1 hr=>⟨k + 1,hlt,by omega,Zbj (by unfold maxLen; omega),Eq.mpr (Za6 (t:=Zah)) ?_⟩⟩
    exact Zer
  · exact Zeq
def ZyQ:Zat Tryz.prog:=⟨226,[.v (.list Zah)],fun x=>Zg1 x.1,fun x=>.c (.row 0 0),fun x=>[.row Zah x.1 0 0 none],fun x hx=>ZyP x.1 hx,Tryz.call226⟩
abbrev Zg2 (a:Zbc):Prop:=bulk a≤1048576
theorem ZyR (a:Zbc) (hpre:Zg2 a):Zai Tryz.prog 163 [.ag [.hs .no Zah a.1, .bool a.2.1, .bool a.2.2]] (.ag [.row 0 0, .bool a.2.1, .bool a.2.2]) [.row Zah a.1 0 0 none]:=by
  refine bc0 [ZyQ] [] [] [] L0 Tryz.func163 (fun hwf=>?_)
  refine Eq.mpr (β:=(T5 ((pt (Zg1 a.1))∧(T12 (pt (((a.1=a.1)∧(cB a.2.1 a.2.1)∧(cB a.2.2 a.2.2)∧True))))))) (by kernel_rfl) ?_
  have hp:bulk a≤1048576:=hpre
  have hb:bulk a=bulk a.1 + (0 + (0)):=rfl
  exact ZbU
def ZyS:Zat Tryz.prog:=⟨163,[.s ZcU],fun x=>Zg2 x.1,fun x=>.ag [.row 0 0, .bool x.1.2.1, .bool x.1.2.2],fun x=>[.row Zah x.1.1 0 0 none],fun x hx=>ZyR x.1 hx,Tryz.call163⟩
theorem ZDu (a:ZpD):Zai Tryz.prog 165 [.ag [.str a.1, .str a.2]] (.ag [.str a.1, .str a.2]) []:=by
  refine bc0 [] [] [] [] L0 Tryz.func165 (fun hwf=>?_)
  refine Eq.mpr (β:=(T12 (True∧(pt (((cS a.1 a.1)∧(cS a.2 a.2)∧True)))))) (by kernel_rfl) ?_
  exact ZbU
def ZDv:Zat Tryz.prog:=⟨165,[.s Zkl],fun x=>True,fun x=>.ag [.str x.1.1, .str x.1.2],fun _=>[],fun x hx=>ZDu x.1,Tryz.call165⟩
theorem ZFr (a:GIn):Zai Tryz.prog 164 [.ag [.str a.1, .bool a.2]] (.ag [.str a.1, .bool a.2]) []:=by
  refine bc0 [] [] [] [] L0 Tryz.func164 (fun hwf=>?_)
  refine Eq.mpr (β:=(T12 (True∧(pt (((cS a.1 a.1)∧(cB a.2 a.2)∧True)))))) (by kernel_rfl) ?_
  exact ZbU
def ZFs:Zat Tryz.prog:=⟨164,[.s ZAh],fun x=>True,fun x=>.ag [.str x.1.1, .bool x.1.2],fun _=>[],fun x hx=>ZFr x.1,Tryz.call164⟩
abbrev Zfa (a:Zac):Prop:=bulk a≤1048576
theorem ZrI (a:Zac) (hpre:Zfa a):Zai Tryz.prog 88 [.ag (cellsOf Zag a)] (.ag [.bool a.1, .int .i64 a.2.1, .int .i64 a.2.2.1, .int .i64 a.2.2.2.1, .row 0 0, .bool a.2.2.2.2.2.1.1, .row 1 0, .str a.2.2.2.2.2.2.1, .str a.2.2.2.2.2.2.2.1, .row 2 0, .bool a.2.2.2.2.2.2.2.2.1.2.1, .bool a.2.2.2.2.2.2.2.2.1.2.2, .str a.2.2.2.2.2.2.2.2.2.1.1, .bool a.2.2.2.2.2.2.2.2.2.1.2, .str a.2.2.2.2.2.2.2.2.2.2.1.1, .str a.2.2.2.2.2.2.2.2.2.2.1.2, .int .i64 a.2.2.2.2.2.2.2.2.2.2.2]) [.row Zal a.2.2.2.2.1 0 0 none, .row Zak a.2.2.2.2.2.1.2 0 0 none, .row Zah a.2.2.2.2.2.2.2.2.1.1 0 0 none]:=by
  refine bc0 [ZBA,Zts,ZyS,ZFs,ZDv] [] [] [] L0 Tryz.func88 (fun hwf=>?_)
  refine Eq.mpr (β:=(T12 (T9 ((pt (ZhQ a.2.2.2.2.1))∧(T4 ((pt (Zf9 a.2.2.2.2.2.1))∧(T12 ((pt (Zg2 a.2.2.2.2.2.2.2.2.1))∧(T4 ((pt True)∧(T4 ((pt True)∧(T8 (pt (((cB a.1 a.1)∧(cI a.2.1 a.2.1)∧(cI a.2.2.1 a.2.2.1)∧(cI a.2.2.2.1 a.2.2.2.1)∧(a.2.2.2.2.1=a.2.2.2.2.1)∧(cB a.2.2.2.2.2.1.1 a.2.2.2.2.2.1.1)∧(a.2.2.2.2.2.1.2=a.2.2.2.2.2.1.2)∧(cS a.2.2.2.2.2.2.1 a.2.2.2.2.2.2.1)∧(cS a.2.2.2.2.2.2.2.1 a.2.2.2.2.2.2.2.1)∧(a.2.2.2.2.2.2.2.2.1.1=a.2.2.2.2.2.2.2.2.1.1)∧(cB a.2.2.2.2.2.2.2.2.1.2.1 a.2.2.2.2.2.2.2.2.1.2.1)∧(cB a.2.2.2.2.2.2.2.2.1.2.2 a.2.2.2.2.2.2.2.2.1.2.2)∧(cS a.2.2.2.2.2.2.2.2.2.1.1 a.2.2.2.2.2.2.2.2.2.1.1)∧(cB a.2.2.2.2.2.2.2.2.2.1.2 a.2.2.2.2.2.2.2.2.2.1.2)∧(cS a.2.2.2.2.2.2.2.2.2.2.1.1 a.2.2.2.2.2.2.2.2.2.2.1.1)∧(cS a.2.2.2.2.2.2.2.2.2.2.1.2 a.2.2.2.2.2.2.2.2.2.2.1.2)∧(cI a.2.2.2.2.2.2.2.2.2.2.2 a.2.2.2.2.2.2.2.2.2.2.2)∧True)))))))))))))))) (by kernel_rfl) ?_
  unfold T12 T4 T8 T9
  have hp:bulk a≤1048576:=hpre
  have hb:bulk a=0 + (0 + (0 + (0 + (bulk a.2.2.2.2.1 + (bulk a.2.2.2.2.2.1 + (ByteArray.size a.2.2.2.2.2.2.1 + (ByteArray.size a.2.2.2.2.2.2.2.1 + (bulk a.2.2.2.2.2.2.2.2.1 + (bulk a.2.2.2.2.2.2.2.2.2.1 + (bulk a.2.2.2.2.2.2.2.2.2.2.1 + (0))))))))))):=rfl
  exact ZbU
def ZrJ:Zat Tryz.prog:=⟨88,[.s Zag],fun x=>Zfa x.1,fun x=>.ag [.bool x.1.1, .int .i64 x.1.2.1, .int .i64 x.1.2.2.1, .int .i64 x.1.2.2.2.1, .row 0 0, .bool x.1.2.2.2.2.2.1.1, .row 1 0, .str x.1.2.2.2.2.2.2.1, .str x.1.2.2.2.2.2.2.2.1, .row 2 0, .bool x.1.2.2.2.2.2.2.2.2.1.2.1, .bool x.1.2.2.2.2.2.2.2.2.1.2.2, .str x.1.2.2.2.2.2.2.2.2.2.1.1, .bool x.1.2.2.2.2.2.2.2.2.2.1.2, .str x.1.2.2.2.2.2.2.2.2.2.2.1.1, .str x.1.2.2.2.2.2.2.2.2.2.2.1.2, .int .i64 x.1.2.2.2.2.2.2.2.2.2.2.2],fun x=>[.row Zal x.1.2.2.2.2.1 0 0 none, .row Zak x.1.2.2.2.2.2.1.2 0 0 none, .row Zah x.1.2.2.2.2.2.2.2.2.1.1 0 0 none],fun x hx=>ZrI x.1 hx,Tryz.call88⟩
abbrev Zev (a:List Zac):Prop:=bulk a≤1048576
def Zpp (a:List Zac):Nat→List AV→Mem→Za3
  | 3,tm,M=>⟨Nat,fun y=>(Zb2 (Zcx tm [(4, .c (.int .i64 ((y:Nat):Int)))]) 8 14,ZrZ M [(0, .row Zag (List.take y a ++ List.replicate (List.length a - y) Zem) 0 0 none)]),fun y=>(y≤List.length a),fun y=>(List.length a - y)⟩
  | _,_,_=>⟨Unit,fun _=>([],[]),fun _=>False,fun _=>0⟩
theorem Zpq (a:List Zac) (hpre:Zev a):Zai Tryz.prog 36 [.c (.hs .no Zag a)] (.c (.row 0 0)) [.row Zag a 0 0 none]:=by
  refine bc0 [ZrJ] [] [] [] (Zpp a) Tryz.func36 (fun hwf=>?_)
  refine Eq.mpr (β:=(T3 ((((List.length a:Int):Int)=(List.length a:Int)∧(0:Int)≤(List.length a:Int)∧((List.length a:Int):Int)≤(rowMax:Int))∧(T2 ((∃ q:Nat,(q≤List.length a)∧((lxs [hn Zag a, .tp [], .c (.raw (.slice none 0 0)), .c (.row 0 0)] (vI 0 q∧lxs [hn Zag a,ci (List.length a), .c (.row 0 0)] (TN 14 (lxs [.tp []] True))))∧pt (leB (.row Zag (List.replicate (List.length a) Zem) 0 0 none) (.row Zag (List.take q a ++ List.replicate (List.length a - q) Zem) 0 0 none)∧True)))∧∀ y0:Nat,(y0≤List.length a)→(T4 (bif (ltI y0 (List.length a)) then (T4 ((ix 17 y0 (List.length a))∧(True∧((pt (Zfa (ZaA a y0)))∧((ix 17 y0 (List.length (List.take y0 a ++ List.replicate (List.length a - y0) Zem)))∧(True∧∀ r1:List Zac,r1=(List.set (List.take y0 a ++ List.replicate (List.length a - y0) Zem) y0 (ZaA a y0))→(T3 (∃ y0' : Nat,(y0'≤List.length a)∧(List.length a - y0') < (List.length a - y0)∧((lxs [hn Zag a, .tp [], .c (.raw (.slice none 0 0)), .c (.row 0 0)] (vI (w64 ((y0:Int) + 1)) y0'∧lxs [hn Zag a,ci (List.length a), .c (.row 0 0)] (TN 14 (lxs [.tp []] True))))∧pt (leB (.row Zag r1 0 0 none) (.row Zag (List.take y0' a ++ List.replicate (List.length a - y0') Zem) 0 0 none)∧True)))))))))) else (T2 (pt ((List.take y0 a ++ List.replicate (List.length a - y0) Zem)=a)))))))))) (by kernel_rfl) ?_
  unfold T2 T3 T4
  have hp:bulk a≤1048576:=hpre
  have hb:bulk a=a.length + Zar a:=rfl
  simp only [SIA,eq_self]
  refine ⟨⟨by omega,by unfold rowMax; omega⟩,⟨0,Nat.zero_le _,rfl,Eq.mpr (Za6 (t:=Zag)) rfl⟩,fun k hk=>⟨fun hlt=>?_,fun hge=>?_⟩⟩
  · have hlt:k < a.length:=by omega
    have hk:=Zap (t:=Zag) hlt
    have hl:(List.take k a ++ List.replicate (List.length a - k) Zem).length=a.length:=by simp; omega
    have hbn:bulk (ZaA a k)≤Zar a:=Zf1 hk
    refine ⟨⟨by omega,by omega⟩,by show bulk _≤_; omega,⟨by omega,by rw [hl]; omega⟩,fun r1 hr=>⟨k + 1,hlt,by omega,Zbj (by unfold maxLen; omega),Eq.mpr (Za6 (t:=Zag)) ?_⟩⟩
    exact Zer
  · exact Zeq
def Zpr:Zat Tryz.prog:=⟨36,[.v (.list Zag)],fun x=>Zev x.1,fun x=>.c (.row 0 0),fun x=>[.row Zag x.1 0 0 none],fun x hx=>Zpq x.1 hx,Tryz.call36⟩
abbrev Zdg (a:Zbg):Prop:=bulk a≤1048576
theorem Ztv (a:Zbg) (hpre:Zdg a):Zai Tryz.prog 11 [.ag (cellsOf ZbP a)] (.ag [.row 0 0, .row 1 0, .int .i64 a.1.2.2, .row 2 0]) [.row Zaf a.1.1 0 0 none, .row Zae a.1.2.1 0 0 none, .row Zag a.2 0 0 none]:=by
  refine bc0 [ZyK,Zpr] [] [] [] L0 Tryz.func11 (fun hwf=>?_)
  refine Eq.mpr (β:=(T5 ((pt (ZgZ a.1))∧(T4 ((pt (Zev a.2))∧(T4 (pt (((a.1.1=a.1.1)∧(a.1.2.1=a.1.2.1)∧(cI a.1.2.2 a.1.2.2)∧(a.2=a.2)∧True))))))))) (by kernel_rfl) ?_
  have hp:bulk a≤1048576:=hpre
  have hb:bulk a=bulk a.1 + (bulk a.2):=rfl
  exact ZbU
def Ztw:Zat Tryz.prog:=⟨11,[.s ZbP],fun x=>Zdg x.1,fun x=>.ag [.row 0 0, .row 1 0, .int .i64 x.1.1.2.2, .row 2 0],fun x=>[.row Zaf x.1.1.1 0 0 none, .row Zae x.1.1.2.1 0 0 none, .row Zag x.1.2 0 0 none],fun x hx=>Ztv x.1 hx,Tryz.call11⟩
end Go.Proofs.YtkompmgleojmlaaGreat
