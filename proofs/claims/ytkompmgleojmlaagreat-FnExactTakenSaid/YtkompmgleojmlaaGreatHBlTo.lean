import Derived.Test.YtkompmgleojmlaaGreatHLawA
set_option linter.unusedSimpArgs false
set_option linter.unusedVariables false
set_option maxRecDepth 100000
set_option maxHeartbeats 4000000
namespace Go.Proofs.YtkompmgleojmlaaGreat
open Go.ChangeShapes Go.WideShapes Go.ChangeAt Go.RowKit Go.Joins Go.Deep
open GoRep (rep bulk)
abbrev ZgO (a:List ByteArray):Prop:=bulk a≤1048576
def Zvb (a:List ByteArray):Nat→List AV→Mem→Zbj
 | 3,tm,M=>⟨Nat,fun y=>(Zcn (ZcC tm [(4, .c (.int .i64 ((y:Nat):Int)))]) 8 13,ZlQ M [(0, .row ZaW (List.take y a ++ List.replicate (List.length a - y) (⟨#[]⟩:ByteArray)) 0 0 none)]),fun y=>(y≤List.length a),fun y=>(List.length a - y)⟩
 | _,_,_=>⟨Unit,fun _=>([],[]),fun _=>False,fun _=>0⟩
theorem Zvc (a:List ByteArray) (hpre:ZgO a):Zam Tryz.prog 290 [.c (.hs .no ZaW a)] (.c (.row 0 0)) [.row ZaW a 0 0 none]:=by
 refine bc0 [] [] [] [] (Zvb a) Tryz.func290 (fun hwf=>?_)
 refine Eq.mpr (β:=T3 (((a.length:Int)=(a.length:Int)∧(0:Int)≤(a.length:Int)∧(a.length:Int)≤(rowMax:Int))∧T2 ((∃ q:Nat,(q≤a.length)∧lxs [hn ZaW a, .tp [], .c (.raw (.slice none 0 0)), .c (.row 0 0)] (vI 0 q∧lxs [hn ZaW a,ci a.length, .c (.row 0 0)] (TN 13 (lxs [.tp []] True)))∧pt (leB (.row ZaW (List.replicate a.length (⟨#[]⟩:ByteArray)) 0 0 none) (.row ZaW (List.take q a ++ List.replicate (a.length - q) (⟨#[]⟩:ByteArray)) 0 0 none)∧True))∧∀ y0:Nat,(y0≤a.length)→T4 (bif ltI y0 a.length then T4 (ix 1 y0 a.length∧True∧ix 1 y0 (List.length (List.take y0 a ++ List.replicate (a.length - y0) (⟨#[]⟩:ByteArray)))∧True∧∀ r1:List ByteArray,r1=List.set (List.take y0 a ++ List.replicate (a.length - y0) (⟨#[]⟩:ByteArray)) y0 (ZaF a y0)→T3 (∃ y0' : Nat,(y0'≤a.length)∧(a.length - y0') < (a.length - y0)∧lxs [hn ZaW a, .tp [], .c (.raw (.slice none 0 0)), .c (.row 0 0)] (vI (w64 ((y0:Int) + 1)) y0'∧lxs [hn ZaW a,ci a.length, .c (.row 0 0)] (TN 13 (lxs [.tp []] True)))∧pt (leB (.row ZaW r1 0 0 none) (.row ZaW (List.take y0' a ++ List.replicate (a.length - y0') (⟨#[]⟩:ByteArray)) 0 0 none)∧True))) else T2 (pt ((List.take y0 a ++ List.replicate (a.length - y0) (⟨#[]⟩:ByteArray))=a)))))) (by kernel_rfl) ?_
 unfold T2 T3 T4
 have hp:bulk a≤1048576:=hpre
 have hb:bulk a=a.length + ZaP a:=rfl
 simp only [SIA,eq_self]
 refine ⟨⟨by omega,by unfold rowMax; omega⟩,⟨0,Nat.zero_le _,rfl,Eq.mpr (Za9 (t:=ZaW)) rfl⟩,fun k hk=>⟨fun hlt=>?_,fun hge=>?_⟩⟩
 ·have hlt:k < a.length:=by omega
  have hk:=Zau (t:=ZaW) hlt
  have hl:(List.take k a ++ List.replicate (List.length a - k) (⟨#[]⟩:ByteArray)).length=a.length:=by simp; omega
  have hbn:bulk (ZaF a k)≤ZaP a:=ZhD hk
  refine ⟨⟨by omega,by omega⟩,⟨by omega,by rw [hl]; omega⟩,fun r1 hr=>⟨k + 1,hlt,by omega,ZbL (by unfold maxLen; omega),Eq.mpr (Za9 (t:=ZaW)) ?_⟩⟩
  exact ZfP
 ·exact ZfO
def Zvd:ZaC Tryz.prog:=⟨290,[.v (.list ZaW)],fun x=>ZgO x.1,fun x=>.c (.row 0 0),fun x=>[.row ZaW x.1 0 0 none],fun x hx=>Zvc x.1 hx,Tryz.call290⟩
abbrev ZiL (a:ZaZ):Prop:=bulk a≤1048576
theorem ZDo (a:ZaZ) (hpre:ZiL a):Zam Tryz.prog 266 [.ag [.int .i64 a.1, .hs .no ZaW a.2.1, .int .i64 a.2.2]] (.ag [.int .i64 a.1, .row 0 0, .int .i64 a.2.2]) [.row ZaW a.2.1 0 0 none]:=by
 refine bc0 [Zvd] [] [] [] L0 Tryz.func266 (fun hwf=>?_)
 refine Eq.mpr (β:=T9 (pt (ZgO a.2.1)∧T8 (pt ((cI a.1 a.1∧a.2.1=a.2.1∧cI a.2.2 a.2.2∧True))))) (by kernel_rfl) ?_
 have hp:bulk a≤1048576:=hpre
 have hb:bulk a=0 + (bulk a.2.1 + (0)):=rfl
 exact ZcO
def ZDp:ZaC Tryz.prog:=⟨266,[.s Zak],fun x=>ZiL x.1,fun x=>.ag [.int .i64 x.1.1, .row 0 0, .int .i64 x.1.2.2],fun x=>[.row ZaW x.1.2.1 0 0 none],fun x hx=>ZDo x.1 hx,Tryz.call266⟩
abbrev ZhU (a:List ZaZ):Prop:=bulk a≤1048576
def Zxi (a:List ZaZ):Nat→List AV→Mem→Zbj
 | 3,tm,M=>⟨Nat,fun y=>(Zcn (ZcC tm [(4, .c (.int .i64 ((y:Nat):Int)))]) 8 14,ZlQ M [(0, .row Zak (List.take y a ++ List.replicate (List.length a - y) Zj3) 0 0 none)]),fun y=>(y≤List.length a),fun y=>(List.length a - y)⟩
 | _,_,_=>⟨Unit,fun _=>([],[]),fun _=>False,fun _=>0⟩
theorem Zxj (a:List ZaZ) (hpre:ZhU a):Zam Tryz.prog 225 [.c (.hs .no Zak a)] (.c (.row 0 0)) [.row Zak a 0 0 none]:=by
 refine bc0 [ZDp] [] [] [] (Zxi a) Tryz.func225 (fun hwf=>?_)
 refine Eq.mpr (β:=T3 (((a.length:Int)=(a.length:Int)∧(0:Int)≤(a.length:Int)∧(a.length:Int)≤(rowMax:Int))∧T2 ((∃ q:Nat,(q≤a.length)∧lxs [hn Zak a, .tp [], .c (.raw (.slice none 0 0)), .c (.row 0 0)] (vI 0 q∧lxs [hn Zak a,ci a.length, .c (.row 0 0)] (TN 14 (lxs [.tp []] True)))∧pt (leB (.row Zak (List.replicate a.length Zj3) 0 0 none) (.row Zak (List.take q a ++ List.replicate (a.length - q) Zj3) 0 0 none)∧True))∧∀ y0:Nat,(y0≤a.length)→T4 (bif ltI y0 a.length then T4 (ix 3 y0 a.length∧True∧pt (ZiL (Zaq a y0))∧ix 3 y0 (List.length (List.take y0 a ++ List.replicate (a.length - y0) Zj3))∧True∧∀ r1:List ZaZ,r1=List.set (List.take y0 a ++ List.replicate (a.length - y0) Zj3) y0 (Zaq a y0)→T3 (∃ y0' : Nat,(y0'≤a.length)∧(a.length - y0') < (a.length - y0)∧lxs [hn Zak a, .tp [], .c (.raw (.slice none 0 0)), .c (.row 0 0)] (vI (w64 ((y0:Int) + 1)) y0'∧lxs [hn Zak a,ci a.length, .c (.row 0 0)] (TN 14 (lxs [.tp []] True)))∧pt (leB (.row Zak r1 0 0 none) (.row Zak (List.take y0' a ++ List.replicate (a.length - y0') Zj3) 0 0 none)∧True))) else T2 (pt ((List.take y0 a ++ List.replicate (a.length - y0) Zj3)=a)))))) (by kernel_rfl) ?_
 unfold T2 T3 T4
 have hp:bulk a≤1048576:=hpre
 have hb:bulk a=a.length + ZaP a:=rfl
 simp only [SIA,eq_self]
 refine ⟨⟨by omega,by unfold rowMax; omega⟩,⟨0,Nat.zero_le _,rfl,Eq.mpr (Za9 (t:=Zak)) rfl⟩,fun k hk=>⟨fun hlt=>?_,fun hge=>?_⟩⟩
 ·have hlt:k < a.length:=by omega
  have hk:=Zau (t:=Zak) hlt
  have hl:(List.take k a ++ List.replicate (List.length a - k) Zj3).length=a.length:=by simp; omega
  have hbn:bulk (Zaq a k)≤ZaP a:=ZhD hk
  refine ⟨⟨by omega,by omega⟩,by show bulk _≤_; omega,⟨by omega,by rw [hl]; omega⟩,fun r1 hr=>⟨k + 1,hlt,by omega,ZbL (by unfold maxLen; omega),Eq.mpr (Za9 (t:=Zak)) ?_⟩⟩
  exact ZfP
 ·exact ZfO
def Zxk:ZaC Tryz.prog:=⟨225,[.v (.list Zak)],fun x=>ZhU x.1,fun x=>.c (.row 0 0),fun x=>[.row Zak x.1 0 0 none],fun x hx=>Zxj x.1 hx,Tryz.call225⟩
abbrev ZhV (a:Zb3):Prop:=bulk a≤1048576
theorem Zxl (a:Zb3) (hpre:ZhV a):Zam Tryz.prog 162 [.ag [.bool a.1, .hs .no Zak a.2]] (.ag [.bool a.1, .row 0 0]) [.row Zak a.2 0 0 none]:=by
 refine bc0 [Zxk] [] [] [] L0 Tryz.func162 (fun hwf=>?_)
 refine Eq.mpr (β:=T9 (pt (ZhU a.2)∧T4 (pt ((cB a.1 a.1∧a.2=a.2∧True))))) (by kernel_rfl) ?_
 have hp:bulk a≤1048576:=hpre
 have hb:bulk a=0 + (bulk a.2):=rfl
 exact ZcO
def Zxm:ZaC Tryz.prog:=⟨162,[.s Zdd],fun x=>ZhV x.1,fun x=>.ag [.bool x.1.1, .row 0 0],fun x=>[.row Zak x.1.2 0 0 none],fun x hx=>Zxl x.1 hx,Tryz.call162⟩
theorem ZIC (a:Zds):Zam Tryz.prog 264 [.ag [.int .i64 a.1, .int .i64 a.2.1, .str a.2.2]] (.ag [.int .i64 a.1, .int .i64 a.2.1, .str a.2.2]) []:=by
 refine bc0 [] [] [] [] L0 Tryz.func264 (fun hwf=>?_)
 refine Eq.mpr (β:=T12 (T5 (pt ((cI a.1 a.1∧cI a.2.1 a.2.1∧cS a.2.2 a.2.2∧True))))) (by kernel_rfl) ?_
 exact ZcO
def ZID:ZaC Tryz.prog:=⟨264,[.s ZaU],fun x=>True,fun x=>.ag [.int .i64 x.1.1, .int .i64 x.1.2.1, .str x.1.2.2],fun _=>[],fun x hx=>ZIC x.1,Tryz.call264⟩
abbrev ZjH (a:List Zds):Prop:=bulk a≤1048576
def ZGl (a:List Zds):Nat→List AV→Mem→Zbj
 | 3,tm,M=>⟨Nat,fun y=>(Zcn (ZcC tm [(4, .c (.int .i64 ((y:Nat):Int)))]) 8 14,ZlQ M [(0, .row ZaU (List.take y a ++ List.replicate (List.length a - y) Zx1) 0 0 none)]),fun y=>(y≤List.length a),fun y=>(List.length a - y)⟩
 | _,_,_=>⟨Unit,fun _=>([],[]),fun _=>False,fun _=>0⟩
theorem ZGm (a:List Zds) (hpre:ZjH a):Zam Tryz.prog 223 [.c (.hs .no ZaU a)] (.c (.row 0 0)) [.row ZaU a 0 0 none]:=by
 refine bc0 [ZID] [] [] [] (ZGl a) Tryz.func223 (fun hwf=>?_)
 refine Eq.mpr (β:=T3 (((a.length:Int)=(a.length:Int)∧(0:Int)≤(a.length:Int)∧(a.length:Int)≤(rowMax:Int))∧T2 ((∃ q:Nat,(q≤a.length)∧lxs [hn ZaU a, .tp [], .c (.raw (.slice none 0 0)), .c (.row 0 0)] (vI 0 q∧lxs [hn ZaU a,ci a.length, .c (.row 0 0)] (TN 14 (lxs [.tp []] True)))∧pt (leB (.row ZaU (List.replicate a.length Zx1) 0 0 none) (.row ZaU (List.take q a ++ List.replicate (a.length - q) Zx1) 0 0 none)∧True))∧∀ y0:Nat,(y0≤a.length)→T4 (bif ltI y0 a.length then T4 (ix 3 y0 a.length∧True∧pt True∧ix 3 y0 (List.length (List.take y0 a ++ List.replicate (a.length - y0) Zx1))∧True∧∀ r1:List Zds,r1=List.set (List.take y0 a ++ List.replicate (a.length - y0) Zx1) y0 (ZaG a y0)→T3 (∃ y0' : Nat,(y0'≤a.length)∧(a.length - y0') < (a.length - y0)∧lxs [hn ZaU a, .tp [], .c (.raw (.slice none 0 0)), .c (.row 0 0)] (vI (w64 ((y0:Int) + 1)) y0'∧lxs [hn ZaU a,ci a.length, .c (.row 0 0)] (TN 14 (lxs [.tp []] True)))∧pt (leB (.row ZaU r1 0 0 none) (.row ZaU (List.take y0' a ++ List.replicate (a.length - y0') Zx1) 0 0 none)∧True))) else T2 (pt ((List.take y0 a ++ List.replicate (a.length - y0) Zx1)=a)))))) (by kernel_rfl) ?_
 unfold T2 T3 T4
 have hp:bulk a≤1048576:=hpre
 have hb:bulk a=a.length + ZaP a:=rfl
 simp only [SIA,eq_self]
 refine ⟨⟨by omega,by unfold rowMax; omega⟩,⟨0,Nat.zero_le _,rfl,Eq.mpr (Za9 (t:=ZaU)) rfl⟩,fun k hk=>⟨fun hlt=>?_,fun hge=>?_⟩⟩
 ·have hlt:k < a.length:=by omega
  have hk:=Zau (t:=ZaU) hlt
  have hl:(List.take k a ++ List.replicate (List.length a - k) Zx1).length=a.length:=by simp; omega
  have hbn:bulk (ZaG a k)≤ZaP a:=ZhD hk
  refine ⟨⟨by omega,by omega⟩,⟨by omega,by rw [hl]; omega⟩,fun r1 hr=>⟨k + 1,hlt,by omega,ZbL (by unfold maxLen; omega),Eq.mpr (Za9 (t:=ZaU)) ?_⟩⟩
  exact ZfP
 ·exact ZfO
def ZGn:ZaC Tryz.prog:=⟨223,[.v (.list ZaU)],fun x=>ZjH x.1,fun x=>.c (.row 0 0),fun x=>[.row ZaU x.1 0 0 none],fun x hx=>ZGm x.1 hx,Tryz.call223⟩
abbrev ZlF (a:ZaM):Prop:=bulk a≤1048576
theorem ZIE (a:ZaM) (hpre:ZlF a):Zam Tryz.prog 159 [.ag (cellsOf Zaj a)] (.ag [.str a.1, .int .i64 a.2.1, .int .i64 a.2.2.1, .row 0 0]) [.row ZaU a.2.2.2 0 0 none]:=by
 refine bc0 [ZGn] [] [] [] L0 Tryz.func159 (fun hwf=>?_)
 refine Eq.mpr (β:=T12 (T5 (pt (ZjH a.2.2.2)∧T4 (pt ((cS a.1 a.1∧cI a.2.1 a.2.1∧cI a.2.2.1 a.2.2.1∧a.2.2.2=a.2.2.2∧True)))))) (by kernel_rfl) ?_
 have hp:bulk a≤1048576:=hpre
 have hb:bulk a=ByteArray.size a.1 + (0 + (0 + (bulk a.2.2.2))):=rfl
 exact ZcO
def ZIF:ZaC Tryz.prog:=⟨159,[.s Zaj],fun x=>ZlF x.1,fun x=>.ag [.str x.1.1, .int .i64 x.1.2.1, .int .i64 x.1.2.2.1, .row 0 0],fun x=>[.row ZaU x.1.2.2.2 0 0 none],fun x hx=>ZIE x.1 hx,Tryz.call159⟩
abbrev ZjI (a:List ZaM):Prop:=bulk a≤1048576
def ZGo (a:List ZaM):Nat→List AV→Mem→Zbj
 | 3,tm,M=>⟨Nat,fun y=>(Zcn (ZcC tm [(4, .c (.int .i64 ((y:Nat):Int)))]) 8 14,ZlQ M [(0, .row Zaj (List.take y a ++ List.replicate (List.length a - y) ZqT) 0 0 none)]),fun y=>(y≤List.length a),fun y=>(List.length a - y)⟩
 | _,_,_=>⟨Unit,fun _=>([],[]),fun _=>False,fun _=>0⟩
theorem ZGp (a:List ZaM) (hpre:ZjI a):Zam Tryz.prog 86 [.c (.hs .no Zaj a)] (.c (.row 0 0)) [.row Zaj a 0 0 none]:=by
 refine bc0 [ZIF] [] [] [] (ZGo a) Tryz.func86 (fun hwf=>?_)
 refine Eq.mpr (β:=T3 (((a.length:Int)=(a.length:Int)∧(0:Int)≤(a.length:Int)∧(a.length:Int)≤(rowMax:Int))∧T2 ((∃ q:Nat,(q≤a.length)∧lxs [hn Zaj a, .tp [], .c (.raw (.slice none 0 0)), .c (.row 0 0)] (vI 0 q∧lxs [hn Zaj a,ci a.length, .c (.row 0 0)] (TN 14 (lxs [.tp []] True)))∧pt (leB (.row Zaj (List.replicate a.length ZqT) 0 0 none) (.row Zaj (List.take q a ++ List.replicate (a.length - q) ZqT) 0 0 none)∧True))∧∀ y0:Nat,(y0≤a.length)→T4 (bif ltI y0 a.length then T4 (ix 4 y0 a.length∧True∧pt (ZlF (Zab a y0))∧ix 4 y0 (List.length (List.take y0 a ++ List.replicate (a.length - y0) ZqT))∧True∧∀ r1:List ZaM,r1=List.set (List.take y0 a ++ List.replicate (a.length - y0) ZqT) y0 (Zab a y0)→T3 (∃ y0' : Nat,(y0'≤a.length)∧(a.length - y0') < (a.length - y0)∧lxs [hn Zaj a, .tp [], .c (.raw (.slice none 0 0)), .c (.row 0 0)] (vI (w64 ((y0:Int) + 1)) y0'∧lxs [hn Zaj a,ci a.length, .c (.row 0 0)] (TN 14 (lxs [.tp []] True)))∧pt (leB (.row Zaj r1 0 0 none) (.row Zaj (List.take y0' a ++ List.replicate (a.length - y0') ZqT) 0 0 none)∧True))) else T2 (pt ((List.take y0 a ++ List.replicate (a.length - y0) ZqT)=a)))))) (by kernel_rfl) ?_
 unfold T2 T3 T4
 have hp:bulk a≤1048576:=hpre
 have hb:bulk a=a.length + ZaP a:=rfl
 simp only [SIA,eq_self]
 refine ⟨⟨by omega,by unfold rowMax; omega⟩,⟨0,Nat.zero_le _,rfl,Eq.mpr (Za9 (t:=Zaj)) rfl⟩,fun k hk=>⟨fun hlt=>?_,fun hge=>?_⟩⟩
 ·have hlt:k < a.length:=by omega
  have hk:=Zau (t:=Zaj) hlt
  have hl:(List.take k a ++ List.replicate (List.length a - k) ZqT).length=a.length:=by simp; omega
  have hbn:bulk (Zab a k)≤ZaP a:=ZhD hk
  refine ⟨⟨by omega,by omega⟩,by show bulk _≤_; omega,⟨by omega,by rw [hl]; omega⟩,fun r1 hr=>⟨k + 1,hlt,by omega,ZbL (by unfold maxLen; omega),Eq.mpr (Za9 (t:=Zaj)) ?_⟩⟩
  exact ZfP
 ·exact ZfO
def ZGq:ZaC Tryz.prog:=⟨86,[.v (.list Zaj)],fun x=>ZjI x.1,fun x=>.c (.row 0 0),fun x=>[.row Zaj x.1 0 0 none],fun x hx=>ZGp x.1 hx,Tryz.call86⟩
theorem Zxn (a:Zax):Zam Tryz.prog 160 [.ag (cellsOf Zag a)] (.ag [.int .i64 a.1, .int .i64 a.2.1, .int .i64 a.2.2.1, .int .i64 a.2.2.2.1, .str a.2.2.2.2.1, .str a.2.2.2.2.2]) []:=by
 refine bc0 [] [] [] [] L0 Tryz.func160 (fun hwf=>?_)
 refine Eq.mpr (β:=T12 (T12 (T5 (pt ((cI a.1 a.1∧cI a.2.1 a.2.1∧cI a.2.2.1 a.2.2.1∧cI a.2.2.2.1 a.2.2.2.1∧cS a.2.2.2.2.1 a.2.2.2.2.1∧cS a.2.2.2.2.2 a.2.2.2.2.2∧True)))))) (by kernel_rfl) ?_
 exact ZcO
def Zxo:ZaC Tryz.prog:=⟨160,[.s Zag],fun x=>True,fun x=>.ag [.int .i64 x.1.1, .int .i64 x.1.2.1, .int .i64 x.1.2.2.1, .int .i64 x.1.2.2.2.1, .str x.1.2.2.2.2.1, .str x.1.2.2.2.2.2],fun _=>[],fun x hx=>Zxn x.1,Tryz.call160⟩
abbrev ZgP (a:List Zax):Prop:=bulk a≤1048576
def Zve (a:List Zax):Nat→List AV→Mem→Zbj
 | 3,tm,M=>⟨Nat,fun y=>(Zcn (ZcC tm [(4, .c (.int .i64 ((y:Nat):Int)))]) 8 14,ZlQ M [(0, .row Zag (List.take y a ++ List.replicate (List.length a - y) Zhx) 0 0 none)]),fun y=>(y≤List.length a),fun y=>(List.length a - y)⟩
 | _,_,_=>⟨Unit,fun _=>([],[]),fun _=>False,fun _=>0⟩
theorem Zvf (a:List Zax) (hpre:ZgP a):Zam Tryz.prog 87 [.c (.hs .no Zag a)] (.c (.row 0 0)) [.row Zag a 0 0 none]:=by
 refine bc0 [Zxo] [] [] [] (Zve a) Tryz.func87 (fun hwf=>?_)
 refine Eq.mpr (β:=T3 (((a.length:Int)=(a.length:Int)∧(0:Int)≤(a.length:Int)∧(a.length:Int)≤(rowMax:Int))∧T2 ((∃ q:Nat,(q≤a.length)∧lxs [hn Zag a, .tp [], .c (.raw (.slice none 0 0)), .c (.row 0 0)] (vI 0 q∧lxs [hn Zag a,ci a.length, .c (.row 0 0)] (TN 14 (lxs [.tp []] True)))∧pt (leB (.row Zag (List.replicate a.length Zhx) 0 0 none) (.row Zag (List.take q a ++ List.replicate (a.length - q) Zhx) 0 0 none)∧True))∧∀ y0:Nat,(y0≤a.length)→T4 (bif ltI y0 a.length then T4 (ix 6 y0 a.length∧True∧pt True∧ix 6 y0 (List.length (List.take y0 a ++ List.replicate (a.length - y0) Zhx))∧True∧∀ r1:List Zax,r1=List.set (List.take y0 a ++ List.replicate (a.length - y0) Zhx) y0 (Zac a y0)→T3 (∃ y0' : Nat,(y0'≤a.length)∧(a.length - y0') < (a.length - y0)∧lxs [hn Zag a, .tp [], .c (.raw (.slice none 0 0)), .c (.row 0 0)] (vI (w64 ((y0:Int) + 1)) y0'∧lxs [hn Zag a,ci a.length, .c (.row 0 0)] (TN 14 (lxs [.tp []] True)))∧pt (leB (.row Zag r1 0 0 none) (.row Zag (List.take y0' a ++ List.replicate (a.length - y0') Zhx) 0 0 none)∧True))) else T2 (pt ((List.take y0 a ++ List.replicate (a.length - y0) Zhx)=a)))))) (by kernel_rfl) ?_
 unfold T2 T3 T4
 have hp:bulk a≤1048576:=hpre
 have hb:bulk a=a.length + ZaP a:=rfl
 simp only [SIA,eq_self]
 refine ⟨⟨by omega,by unfold rowMax; omega⟩,⟨0,Nat.zero_le _,rfl,Eq.mpr (Za9 (t:=Zag)) rfl⟩,fun k hk=>⟨fun hlt=>?_,fun hge=>?_⟩⟩
 ·have hlt:k < a.length:=by omega
  have hk:=Zau (t:=Zag) hlt
  have hl:(List.take k a ++ List.replicate (List.length a - k) Zhx).length=a.length:=by simp; omega
  have hbn:bulk (Zac a k)≤ZaP a:=ZhD hk
  refine ⟨⟨by omega,by omega⟩,⟨by omega,by rw [hl]; omega⟩,fun r1 hr=>⟨k + 1,hlt,by omega,ZbL (by unfold maxLen; omega),Eq.mpr (Za9 (t:=Zag)) ?_⟩⟩
  exact ZfP
 ·exact ZfO
def Zvg:ZaC Tryz.prog:=⟨87,[.v (.list Zag)],fun x=>ZgP x.1,fun x=>.c (.row 0 0),fun x=>[.row Zag x.1 0 0 none],fun x hx=>Zvf x.1 hx,Tryz.call87⟩
abbrev ZiM (a:ZaI):Prop:=bulk a≤1048576
theorem ZDq (a:ZaI) (hpre:ZiM a):Zam Tryz.prog 35 [.ag (cellsOf ZbJ a)] (.ag [.row 0 0, .row 1 0, .int .i64 a.2.2]) [.row Zaj a.1 0 0 none, .row Zag a.2.1 0 0 none]:=by
 refine bc0 [ZGq,Zvg] [] [] [] L0 Tryz.func35 (fun hwf=>?_)
 refine Eq.mpr (β:=T5 (pt (ZjI a.1)∧T4 (pt (ZgP a.2.1)∧T8 (pt ((a.1=a.1∧a.2.1=a.2.1∧cI a.2.2 a.2.2∧True)))))) (by kernel_rfl) ?_
 have hp:bulk a≤1048576:=hpre
 have hb:bulk a=bulk a.1 + (bulk a.2.1 + (0)):=rfl
 exact ZcO
def ZDr:ZaC Tryz.prog:=⟨35,[.s ZbJ],fun x=>ZiM x.1,fun x=>.ag [.row 0 0, .row 1 0, .int .i64 x.1.2.2],fun x=>[.row Zaj x.1.1 0 0 none, .row Zag x.1.2.1 0 0 none],fun x hx=>ZDq x.1 hx,Tryz.call35⟩
theorem ZGr (a:ZbX):Zam Tryz.prog 265 [.ag [.int .i64 a.1, .int .i64 a.2]] (.ag [.int .i64 a.1, .int .i64 a.2]) []:=by
 refine bc0 [] [] [] [] L0 Tryz.func265 (fun hwf=>?_)
 refine Eq.mpr (β:=T12 (True∧pt ((cI a.1 a.1∧cI a.2 a.2∧True)))) (by kernel_rfl) ?_
 exact ZcO
def ZGs:ZaC Tryz.prog:=⟨265,[.s Zay],fun x=>True,fun x=>.ag [.int .i64 x.1.1, .int .i64 x.1.2],fun _=>[],fun x hx=>ZGr x.1,Tryz.call265⟩
abbrev ZiN (a:List ZbX):Prop:=bulk a≤1048576
def ZDs (a:List ZbX):Nat→List AV→Mem→Zbj
 | 3,tm,M=>⟨Nat,fun y=>(Zcn (ZcC tm [(4, .c (.int .i64 ((y:Nat):Int)))]) 8 14,ZlQ M [(0, .row Zay (List.take y a ++ List.replicate (List.length a - y) Zn8) 0 0 none)]),fun y=>(y≤List.length a),fun y=>(List.length a - y)⟩
 | _,_,_=>⟨Unit,fun _=>([],[]),fun _=>False,fun _=>0⟩
theorem ZDt (a:List ZbX) (hpre:ZiN a):Zam Tryz.prog 224 [.c (.hs .no Zay a)] (.c (.row 0 0)) [.row Zay a 0 0 none]:=by
 refine bc0 [ZGs] [] [] [] (ZDs a) Tryz.func224 (fun hwf=>?_)
 refine Eq.mpr (β:=T3 (((a.length:Int)=(a.length:Int)∧(0:Int)≤(a.length:Int)∧(a.length:Int)≤(rowMax:Int))∧T2 ((∃ q:Nat,(q≤a.length)∧lxs [hn Zay a, .tp [], .c (.raw (.slice none 0 0)), .c (.row 0 0)] (vI 0 q∧lxs [hn Zay a,ci a.length, .c (.row 0 0)] (TN 14 (lxs [.tp []] True)))∧pt (leB (.row Zay (List.replicate a.length Zn8) 0 0 none) (.row Zay (List.take q a ++ List.replicate (a.length - q) Zn8) 0 0 none)∧True))∧∀ y0:Nat,(y0≤a.length)→T4 (bif ltI y0 a.length then T4 (ix 2 y0 a.length∧True∧pt True∧ix 2 y0 (List.length (List.take y0 a ++ List.replicate (a.length - y0) Zn8))∧True∧∀ r1:List ZbX,r1=List.set (List.take y0 a ++ List.replicate (a.length - y0) Zn8) y0 (ZaX a y0)→T3 (∃ y0' : Nat,(y0'≤a.length)∧(a.length - y0') < (a.length - y0)∧lxs [hn Zay a, .tp [], .c (.raw (.slice none 0 0)), .c (.row 0 0)] (vI (w64 ((y0:Int) + 1)) y0'∧lxs [hn Zay a,ci a.length, .c (.row 0 0)] (TN 14 (lxs [.tp []] True)))∧pt (leB (.row Zay r1 0 0 none) (.row Zay (List.take y0' a ++ List.replicate (a.length - y0') Zn8) 0 0 none)∧True))) else T2 (pt ((List.take y0 a ++ List.replicate (a.length - y0) Zn8)=a)))))) (by kernel_rfl) ?_
 unfold T2 T3 T4
 have hp:bulk a≤1048576:=hpre
 have hb:bulk a=a.length + ZaP a:=rfl
 simp only [SIA,eq_self]
 refine ⟨⟨by omega,by unfold rowMax; omega⟩,⟨0,Nat.zero_le _,rfl,Eq.mpr (Za9 (t:=Zay)) rfl⟩,fun k hk=>⟨fun hlt=>?_,fun hge=>?_⟩⟩
 ·have hlt:k < a.length:=by omega
  have hk:=Zau (t:=Zay) hlt
  have hl:(List.take k a ++ List.replicate (List.length a - k) Zn8).length=a.length:=by simp; omega
  have hbn:bulk (ZaX a k)≤ZaP a:=ZhD hk
  refine ⟨⟨by omega,by omega⟩,⟨by omega,by rw [hl]; omega⟩,fun r1 hr=>⟨k + 1,hlt,by omega,ZbL (by unfold maxLen; omega),Eq.mpr (Za9 (t:=Zay)) ?_⟩⟩
  exact ZfP
 ·exact ZfO
def ZDu:ZaC Tryz.prog:=⟨224,[.v (.list Zay)],fun x=>ZiN x.1,fun x=>.c (.row 0 0),fun x=>[.row Zay x.1 0 0 none],fun x hx=>ZDt x.1 hx,Tryz.call224⟩
abbrev ZjJ (a:Zv5):Prop:=bulk a≤1048576
theorem ZGt (a:List ZbX) (hpre:ZjJ a):Zam Tryz.prog 161 [.ag [.hs .no Zay a]] (.ag [.row 0 0]) [.row Zay a 0 0 none]:=by
 refine bc0 [ZDu] [] [] [] L0 Tryz.func161 (fun hwf=>?_)
 refine Eq.mpr (β:=T5 (pt (ZiN a)∧T4 (pt ((a=a∧True))))) (by kernel_rfl) ?_
 have hp:bulk a≤1048576:=hpre
 have hb:bulk a=bulk a:=rfl
 exact ZcO
def ZGu:ZaC Tryz.prog:=⟨161,[.s (.list Zay)],fun x=>ZjJ x.1,fun x=>.ag [.row 0 0],fun x=>[.row Zay x.1 0 0 none],fun x hx=>ZGt x.1 hx,Tryz.call161⟩
theorem ZGv (a:ZaO):Zam Tryz.prog 267 [.ag (cellsOf Zal a)] (.ag [.int .i64 a.1, .int .i64 a.2.1, .int .i64 a.2.2.1, .str a.2.2.2]) []:=by
 refine bc0 [] [] [] [] L0 Tryz.func267 (fun hwf=>?_)
 refine Eq.mpr (β:=T12 (T9 (pt ((cI a.1 a.1∧cI a.2.1 a.2.1∧cI a.2.2.1 a.2.2.1∧cS a.2.2.2 a.2.2.2∧True))))) (by kernel_rfl) ?_
 exact ZcO
def ZGw:ZaC Tryz.prog:=⟨267,[.s Zal],fun x=>True,fun x=>.ag [.int .i64 x.1.1, .int .i64 x.1.2.1, .int .i64 x.1.2.2.1, .str x.1.2.2.2],fun _=>[],fun x hx=>ZGv x.1,Tryz.call267⟩
abbrev ZiO (a:List ZaO):Prop:=bulk a≤1048576
def ZDv (a:List ZaO):Nat→List AV→Mem→Zbj
 | 3,tm,M=>⟨Nat,fun y=>(Zcn (ZcC tm [(4, .c (.int .i64 ((y:Nat):Int)))]) 8 14,ZlQ M [(0, .row Zal (List.take y a ++ List.replicate (List.length a - y) Zn9) 0 0 none)]),fun y=>(y≤List.length a),fun y=>(List.length a - y)⟩
 | _,_,_=>⟨Unit,fun _=>([],[]),fun _=>False,fun _=>0⟩
theorem ZDw (a:List ZaO) (hpre:ZiO a):Zam Tryz.prog 226 [.c (.hs .no Zal a)] (.c (.row 0 0)) [.row Zal a 0 0 none]:=by
 refine bc0 [ZGw] [] [] [] (ZDv a) Tryz.func226 (fun hwf=>?_)
 refine Eq.mpr (β:=T3 (((a.length:Int)=(a.length:Int)∧(0:Int)≤(a.length:Int)∧(a.length:Int)≤(rowMax:Int))∧T2 ((∃ q:Nat,(q≤a.length)∧lxs [hn Zal a, .tp [], .c (.raw (.slice none 0 0)), .c (.row 0 0)] (vI 0 q∧lxs [hn Zal a,ci a.length, .c (.row 0 0)] (TN 14 (lxs [.tp []] True)))∧pt (leB (.row Zal (List.replicate a.length Zn9) 0 0 none) (.row Zal (List.take q a ++ List.replicate (a.length - q) Zn9) 0 0 none)∧True))∧∀ y0:Nat,(y0≤a.length)→T4 (bif ltI y0 a.length then T4 (ix 4 y0 a.length∧True∧pt True∧ix 4 y0 (List.length (List.take y0 a ++ List.replicate (a.length - y0) Zn9))∧True∧∀ r1:List ZaO,r1=List.set (List.take y0 a ++ List.replicate (a.length - y0) Zn9) y0 (Zaf a y0)→T3 (∃ y0' : Nat,(y0'≤a.length)∧(a.length - y0') < (a.length - y0)∧lxs [hn Zal a, .tp [], .c (.raw (.slice none 0 0)), .c (.row 0 0)] (vI (w64 ((y0:Int) + 1)) y0'∧lxs [hn Zal a,ci a.length, .c (.row 0 0)] (TN 14 (lxs [.tp []] True)))∧pt (leB (.row Zal r1 0 0 none) (.row Zal (List.take y0' a ++ List.replicate (a.length - y0') Zn9) 0 0 none)∧True))) else T2 (pt ((List.take y0 a ++ List.replicate (a.length - y0) Zn9)=a)))))) (by kernel_rfl) ?_
 unfold T2 T3 T4
 have hp:bulk a≤1048576:=hpre
 have hb:bulk a=a.length + ZaP a:=rfl
 simp only [SIA,eq_self]
 refine ⟨⟨by omega,by unfold rowMax; omega⟩,⟨0,Nat.zero_le _,rfl,Eq.mpr (Za9 (t:=Zal)) rfl⟩,fun k hk=>⟨fun hlt=>?_,fun hge=>?_⟩⟩
 ·have hlt:k < a.length:=by omega
  have hk:=Zau (t:=Zal) hlt
  have hl:(List.take k a ++ List.replicate (List.length a - k) Zn9).length=a.length:=by simp; omega
  have hbn:bulk (Zaf a k)≤ZaP a:=ZhD hk
  refine ⟨⟨by omega,by omega⟩,⟨by omega,by rw [hl]; omega⟩,fun r1 hr=>⟨k + 1,hlt,by omega,ZbL (by unfold maxLen; omega),Eq.mpr (Za9 (t:=Zal)) ?_⟩⟩
  exact ZfP
 ·exact ZfO
def ZDx:ZaC Tryz.prog:=⟨226,[.v (.list Zal)],fun x=>ZiO x.1,fun x=>.c (.row 0 0),fun x=>[.row Zal x.1 0 0 none],fun x hx=>ZDw x.1 hx,Tryz.call226⟩
abbrev ZiP (a:ZbH):Prop:=bulk a≤1048576
theorem ZDy (a:ZbH) (hpre:ZiP a):Zam Tryz.prog 163 [.ag [.hs .no Zal a.1, .bool a.2.1, .bool a.2.2]] (.ag [.row 0 0, .bool a.2.1, .bool a.2.2]) [.row Zal a.1 0 0 none]:=by
 refine bc0 [ZDx] [] [] [] L0 Tryz.func163 (fun hwf=>?_)
 refine Eq.mpr (β:=T5 (pt (ZiO a.1)∧T12 (pt ((a.1=a.1∧cB a.2.1 a.2.1∧cB a.2.2 a.2.2∧True))))) (by kernel_rfl) ?_
 have hp:bulk a≤1048576:=hpre
 have hb:bulk a=bulk a.1 + (0 + (0)):=rfl
 exact ZcO
def ZDz:ZaC Tryz.prog:=⟨163,[.s Zdz],fun x=>ZiP x.1,fun x=>.ag [.row 0 0, .bool x.1.2.1, .bool x.1.2.2],fun x=>[.row Zal x.1.1 0 0 none],fun x hx=>ZDy x.1 hx,Tryz.call163⟩
theorem ZIG (a:Zl0):Zam Tryz.prog 165 [.ag [.str a.1, .str a.2]] (.ag [.str a.1, .str a.2]) []:=by
 refine bc0 [] [] [] [] L0 Tryz.func165 (fun hwf=>?_)
 refine Eq.mpr (β:=T12 (True∧pt ((cS a.1 a.1∧cS a.2 a.2∧True)))) (by kernel_rfl) ?_
 exact ZcO
def ZIH:ZaC Tryz.prog:=⟨165,[.s ZkP],fun x=>True,fun x=>.ag [.str x.1.1, .str x.1.2],fun _=>[],fun x hx=>ZIG x.1,Tryz.call165⟩
theorem ZKI (a:GIn):Zam Tryz.prog 164 [.ag [.str a.1, .bool a.2]] (.ag [.str a.1, .bool a.2]) []:=by
 refine bc0 [] [] [] [] L0 Tryz.func164 (fun hwf=>?_)
 refine Eq.mpr (β:=T12 (True∧pt ((cS a.1 a.1∧cB a.2 a.2∧True)))) (by kernel_rfl) ?_
 exact ZcO
def ZKJ:ZaC Tryz.prog:=⟨164,[.s ZAY],fun x=>True,fun x=>.ag [.str x.1.1, .bool x.1.2],fun _=>[],fun x hx=>ZKI x.1,Tryz.call164⟩
abbrev ZgQ (a:Zad):Prop:=bulk a≤1048576
theorem Zvh (a:Zad) (hpre:ZgQ a):Zam Tryz.prog 88 [.ag (cellsOf Zae a)] (.ag [.bool a.1, .int .i64 a.2.1, .int .i64 a.2.2.1, .int .i64 a.2.2.2.1, .row 0 0, .bool a.2.2.2.2.2.1.1, .row 1 0, .str a.2.2.2.2.2.2.1, .str a.2.2.2.2.2.2.2.1, .row 2 0, .bool a.2.2.2.2.2.2.2.2.1.2.1, .bool a.2.2.2.2.2.2.2.2.1.2.2, .str a.2.2.2.2.2.2.2.2.2.1.1, .bool a.2.2.2.2.2.2.2.2.2.1.2, .str a.2.2.2.2.2.2.2.2.2.2.1.1, .str a.2.2.2.2.2.2.2.2.2.2.1.2, .int .i64 a.2.2.2.2.2.2.2.2.2.2.2]) [.row Zay a.2.2.2.2.1 0 0 none, .row Zak a.2.2.2.2.2.1.2 0 0 none, .row Zal a.2.2.2.2.2.2.2.2.1.1 0 0 none]:=by
 refine bc0 [ZGu,Zxm,ZDz,ZKJ,ZIH] [] [] [] L0 Tryz.func88 (fun hwf=>?_)
 refine Eq.mpr (β:=T12 (T9 (pt (ZjJ a.2.2.2.2.1)∧T4 (pt (ZhV a.2.2.2.2.2.1)∧T12 (pt (ZiP a.2.2.2.2.2.2.2.2.1)∧T4 (pt True∧T4 (pt True∧T8 (pt ((cB a.1 a.1∧cI a.2.1 a.2.1∧cI a.2.2.1 a.2.2.1∧cI a.2.2.2.1 a.2.2.2.1∧a.2.2.2.2.1=a.2.2.2.2.1∧cB a.2.2.2.2.2.1.1 a.2.2.2.2.2.1.1∧a.2.2.2.2.2.1.2=a.2.2.2.2.2.1.2∧cS a.2.2.2.2.2.2.1 a.2.2.2.2.2.2.1∧cS a.2.2.2.2.2.2.2.1 a.2.2.2.2.2.2.2.1∧a.2.2.2.2.2.2.2.2.1.1=a.2.2.2.2.2.2.2.2.1.1∧cB a.2.2.2.2.2.2.2.2.1.2.1 a.2.2.2.2.2.2.2.2.1.2.1∧cB a.2.2.2.2.2.2.2.2.1.2.2 a.2.2.2.2.2.2.2.2.1.2.2∧cS a.2.2.2.2.2.2.2.2.2.1.1 a.2.2.2.2.2.2.2.2.2.1.1∧cB a.2.2.2.2.2.2.2.2.2.1.2 a.2.2.2.2.2.2.2.2.2.1.2∧cS a.2.2.2.2.2.2.2.2.2.2.1.1 a.2.2.2.2.2.2.2.2.2.2.1.1∧cS a.2.2.2.2.2.2.2.2.2.2.1.2 a.2.2.2.2.2.2.2.2.2.2.1.2∧cI a.2.2.2.2.2.2.2.2.2.2.2 a.2.2.2.2.2.2.2.2.2.2.2∧True)))))))))) (by kernel_rfl) ?_
 unfold T12 T4 T8 T9
 have hp:bulk a≤1048576:=hpre
 have hb:bulk a=0 + (0 + (0 + (0 + (bulk a.2.2.2.2.1 + (bulk a.2.2.2.2.2.1 + (ByteArray.size a.2.2.2.2.2.2.1 + (ByteArray.size a.2.2.2.2.2.2.2.1 + (bulk a.2.2.2.2.2.2.2.2.1 + (bulk a.2.2.2.2.2.2.2.2.2.1 + (bulk a.2.2.2.2.2.2.2.2.2.2.1 + (0))))))))))):=rfl
 exact ZcO
def Zvi:ZaC Tryz.prog:=⟨88,[.s Zae],fun x=>ZgQ x.1,fun x=>.ag [.bool x.1.1, .int .i64 x.1.2.1, .int .i64 x.1.2.2.1, .int .i64 x.1.2.2.2.1, .row 0 0, .bool x.1.2.2.2.2.2.1.1, .row 1 0, .str x.1.2.2.2.2.2.2.1, .str x.1.2.2.2.2.2.2.2.1, .row 2 0, .bool x.1.2.2.2.2.2.2.2.2.1.2.1, .bool x.1.2.2.2.2.2.2.2.2.1.2.2, .str x.1.2.2.2.2.2.2.2.2.2.1.1, .bool x.1.2.2.2.2.2.2.2.2.2.1.2, .str x.1.2.2.2.2.2.2.2.2.2.2.1.1, .str x.1.2.2.2.2.2.2.2.2.2.2.1.2, .int .i64 x.1.2.2.2.2.2.2.2.2.2.2.2],fun x=>[.row Zay x.1.2.2.2.2.1 0 0 none, .row Zak x.1.2.2.2.2.2.1.2 0 0 none, .row Zal x.1.2.2.2.2.2.2.2.2.1.1 0 0 none],fun x hx=>Zvh x.1 hx,Tryz.call88⟩
abbrev ZfV (a:List Zad):Prop:=bulk a≤1048576
def Zsv (a:List Zad):Nat→List AV→Mem→Zbj
 | 3,tm,M=>⟨Nat,fun y=>(Zcn (ZcC tm [(4, .c (.int .i64 ((y:Nat):Int)))]) 8 14,ZlQ M [(0, .row Zae (List.take y a ++ List.replicate (List.length a - y) ZfH) 0 0 none)]),fun y=>(y≤List.length a),fun y=>(List.length a - y)⟩
 | _,_,_=>⟨Unit,fun _=>([],[]),fun _=>False,fun _=>0⟩
theorem Zsw (a:List Zad) (hpre:ZfV a):Zam Tryz.prog 36 [.c (.hs .no Zae a)] (.c (.row 0 0)) [.row Zae a 0 0 none]:=by
 refine bc0 [Zvi] [] [] [] (Zsv a) Tryz.func36 (fun hwf=>?_)
 refine Eq.mpr (β:=T3 (((a.length:Int)=(a.length:Int)∧(0:Int)≤(a.length:Int)∧(a.length:Int)≤(rowMax:Int))∧T2 ((∃ q:Nat,(q≤a.length)∧lxs [hn Zae a, .tp [], .c (.raw (.slice none 0 0)), .c (.row 0 0)] (vI 0 q∧lxs [hn Zae a,ci a.length, .c (.row 0 0)] (TN 14 (lxs [.tp []] True)))∧pt (leB (.row Zae (List.replicate a.length ZfH) 0 0 none) (.row Zae (List.take q a ++ List.replicate (a.length - q) ZfH) 0 0 none)∧True))∧∀ y0:Nat,(y0≤a.length)→T4 (bif ltI y0 a.length then T4 (ix 17 y0 a.length∧True∧pt (ZgQ (Zaa a y0))∧ix 17 y0 (List.length (List.take y0 a ++ List.replicate (a.length - y0) ZfH))∧True∧∀ r1:List Zad,r1=List.set (List.take y0 a ++ List.replicate (a.length - y0) ZfH) y0 (Zaa a y0)→T3 (∃ y0' : Nat,(y0'≤a.length)∧(a.length - y0') < (a.length - y0)∧lxs [hn Zae a, .tp [], .c (.raw (.slice none 0 0)), .c (.row 0 0)] (vI (w64 ((y0:Int) + 1)) y0'∧lxs [hn Zae a,ci a.length, .c (.row 0 0)] (TN 14 (lxs [.tp []] True)))∧pt (leB (.row Zae r1 0 0 none) (.row Zae (List.take y0' a ++ List.replicate (a.length - y0') ZfH) 0 0 none)∧True))) else T2 (pt ((List.take y0 a ++ List.replicate (a.length - y0) ZfH)=a)))))) (by kernel_rfl) ?_
 unfold T2 T3 T4
 have hp:bulk a≤1048576:=hpre
 have hb:bulk a=a.length + ZaP a:=rfl
 simp only [SIA,eq_self]
 refine ⟨⟨by omega,by unfold rowMax; omega⟩,⟨0,Nat.zero_le _,rfl,Eq.mpr (Za9 (t:=Zae)) rfl⟩,fun k hk=>⟨fun hlt=>?_,fun hge=>?_⟩⟩
 ·have hlt:k < a.length:=by omega
  have hk:=Zau (t:=Zae) hlt
  have hl:(List.take k a ++ List.replicate (List.length a - k) ZfH).length=a.length:=by simp; omega
  have hbn:bulk (Zaa a k)≤ZaP a:=ZhD hk
  refine ⟨⟨by omega,by omega⟩,by show bulk _≤_; omega,⟨by omega,by rw [hl]; omega⟩,fun r1 hr=>⟨k + 1,hlt,by omega,ZbL (by unfold maxLen; omega),Eq.mpr (Za9 (t:=Zae)) ?_⟩⟩
  exact ZfP
 ·exact ZfO
def Zsx:ZaC Tryz.prog:=⟨36,[.v (.list Zae)],fun x=>ZfV x.1,fun x=>.c (.row 0 0),fun x=>[.row Zae x.1 0 0 none],fun x hx=>Zsw x.1 hx,Tryz.call36⟩
abbrev ZbR (a:ZaE):Prop:=bulk a≤1048576
theorem Zxp (a:ZaE) (hpre:ZbR a):Zam Tryz.prog 11 [.ag (cellsOf ZaV a)] (.ag [.row 0 0, .row 1 0, .int .i64 a.1.2.2, .row 2 0]) [.row Zaj a.1.1 0 0 none, .row Zag a.1.2.1 0 0 none, .row Zae a.2 0 0 none]:=by
 refine bc0 [ZDr,Zsx] [] [] [] L0 Tryz.func11 (fun hwf=>?_)
 refine Eq.mpr (β:=T5 (pt (ZiM a.1)∧T4 (pt (ZfV a.2)∧T4 (pt ((a.1.1=a.1.1∧a.1.2.1=a.1.2.1∧cI a.1.2.2 a.1.2.2∧a.2=a.2∧True)))))) (by kernel_rfl) ?_
 have hp:bulk a≤1048576:=hpre
 have hb:bulk a=bulk a.1 + (bulk a.2):=rfl
 exact ZcO
def ZjK:ZaC Tryz.prog:=⟨11,[.s ZaV],fun x=>ZbR x.1,fun x=>.ag [.row 0 0, .row 1 0, .int .i64 x.1.1.2.2, .row 2 0],fun x=>[.row Zaj x.1.1.1 0 0 none, .row Zag x.1.1.2.1 0 0 none, .row Zae x.1.2 0 0 none],fun x hx=>Zxp x.1 hx,Tryz.call11⟩
end Go.Proofs.YtkompmgleojmlaaGreat
