import Derived.Test.YtafhbjjcpncfnaaGreatILawA
set_option linter.unusedSimpArgs false
set_option linter.unusedVariables false
set_option maxRecDepth 100000
set_option maxHeartbeats 4000000
namespace Go.Proofs.YtafhbjjcpncfnaaGreat
open Go.ChangeShapes Go.WideShapes Go.ChangeAt Go.RowKit Go.Joins Go.Deep
open GoRep (rep bulk)
abbrev ZgQ (a:List ByteArray):Prop:=bulk a≤1048576
def Zu5 (a:List ByteArray):Nat→List AV→Mem→Zbd
 | 3,tm,M=>⟨Nat,fun y=>(Zcf (Zct tm [(4, .c (.int .i64 ((y:Nat):Int)))]) 8 13,Zky M [(0, .row Za1 (List.take y a ++ List.replicate (List.length a - y) (⟨#[]⟩:ByteArray)) 0 0 none)]),fun y=>(y≤List.length a),fun y=>(List.length a - y)⟩
 | _,_,_=>⟨Unit,fun _=>([],[]),fun _=>False,fun _=>0⟩
theorem Zu6 (a:List ByteArray) (hpre:ZgQ a):Zao Tryz.prog 234 [.c (.hs .no Za1 a)] (.c (.row 0 0)) [.row Za1 a 0 0 none]:=by
 refine bc0 [] [] [] [] (Zu5 a) Tryz.func234 (fun hwf=>?_)
 refine Eq.mpr (β:=T3 (((a.length:Int)=(a.length:Int)∧(0:Int)≤(a.length:Int)∧(a.length:Int)≤(rowMax:Int))∧T2 ((∃ q:Nat,(q≤a.length)∧lxs [hn Za1 a, .tp [], .c (.raw (.slice none 0 0)), .c (.row 0 0)] (vI 0 q∧lxs [hn Za1 a,ci a.length, .c (.row 0 0)] (TN 13 (lxs [.tp []] True)))∧pt (leB (.row Za1 (List.replicate a.length (⟨#[]⟩:ByteArray)) 0 0 none) (.row Za1 (List.take q a ++ List.replicate (a.length - q) (⟨#[]⟩:ByteArray)) 0 0 none)∧True))∧∀ y0:Nat,(y0≤a.length)→T4 (bif ltI y0 a.length then T4 (ix 1 y0 a.length∧True∧ix 1 y0 (List.length (List.take y0 a ++ List.replicate (a.length - y0) (⟨#[]⟩:ByteArray)))∧True∧∀ r1:List ByteArray,r1=List.set (List.take y0 a ++ List.replicate (a.length - y0) (⟨#[]⟩:ByteArray)) y0 (ZaF a y0)→T3 (∃ y0' : Nat,(y0'≤a.length)∧(a.length - y0') < (a.length - y0)∧lxs [hn Za1 a, .tp [], .c (.raw (.slice none 0 0)), .c (.row 0 0)] (vI (w64 ((y0:Int) + 1)) y0'∧lxs [hn Za1 a,ci a.length, .c (.row 0 0)] (TN 13 (lxs [.tp []] True)))∧pt (leB (.row Za1 r1 0 0 none) (.row Za1 (List.take y0' a ++ List.replicate (a.length - y0') (⟨#[]⟩:ByteArray)) 0 0 none)∧True))) else T2 (pt ((List.take y0 a ++ List.replicate (a.length - y0) (⟨#[]⟩:ByteArray))=a)))))) (by kernel_rfl) ?_
 unfold T2 T3 T4
 have hp:bulk a≤1048576:=hpre
 have hb:bulk a=a.length + ZaN a:=rfl
 simp only [SIA,eq_self]
 refine ⟨⟨by omega,by unfold rowMax; omega⟩,⟨0,Nat.zero_le _,rfl,Eq.mpr (Za6 (t:=Za1)) rfl⟩,fun k hk=>⟨fun hlt=>?_,fun hge=>?_⟩⟩
 ·have hlt:k < a.length:=by omega
  have hk:=Zat (t:=Za1) hlt
  have hl:(List.take k a ++ List.replicate (List.length a - k) (⟨#[]⟩:ByteArray)).length=a.length:=by simp; omega
  have hbn:bulk (ZaF a k)≤ZaN a:=ZhI hk
  refine ⟨⟨by omega,by omega⟩,⟨by omega,by rw [hl]; omega⟩,fun r1 hr=>⟨k + 1,hlt,by omega,Zbs (by unfold maxLen; omega),Eq.mpr (Za6 (t:=Za1)) ?_⟩⟩
  exact ZfN
 ·exact ZfM
def Zu7:ZaE Tryz.prog:=⟨234,[.v (.list Za1)],fun x=>ZgQ x.1,fun x=>.c (.row 0 0),fun x=>[.row Za1 x.1 0 0 none],fun x hx=>Zu6 x.1 hx,Tryz.call234⟩
abbrev ZiN (a:ZaW):Prop:=bulk a≤1048576
theorem ZDa (a:ZaW) (hpre:ZiN a):Zao Tryz.prog 204 [.ag [.int .i64 a.1, .hs .no Za1 a.2.1, .int .i64 a.2.2]] (.ag [.int .i64 a.1, .row 0 0, .int .i64 a.2.2]) [.row Za1 a.2.1 0 0 none]:=by
 refine bc0 [Zu7] [] [] [] L0 Tryz.func204 (fun hwf=>?_)
 refine Eq.mpr (β:=T9 (pt (ZgQ a.2.1)∧T8 (pt ((cI a.1 a.1∧a.2.1=a.2.1∧cI a.2.2 a.2.2∧True))))) (by kernel_rfl) ?_
 have hp:bulk a≤1048576:=hpre
 have hb:bulk a=0 + (bulk a.2.1 + (0)):=rfl
 exact ZcG
def ZDb:ZaE Tryz.prog:=⟨204,[.s Zak],fun x=>ZiN x.1,fun x=>.ag [.int .i64 x.1.1, .row 0 0, .int .i64 x.1.2.2],fun x=>[.row Za1 x.1.2.1 0 0 none],fun x hx=>ZDa x.1 hx,Tryz.call204⟩
abbrev ZhU (a:List ZaW):Prop:=bulk a≤1048576
def Zxj (a:List ZaW):Nat→List AV→Mem→Zbd
 | 3,tm,M=>⟨Nat,fun y=>(Zcf (Zct tm [(4, .c (.int .i64 ((y:Nat):Int)))]) 8 14,Zky M [(0, .row Zak (List.take y a ++ List.replicate (List.length a - y) Zj7) 0 0 none)]),fun y=>(y≤List.length a),fun y=>(List.length a - y)⟩
 | _,_,_=>⟨Unit,fun _=>([],[]),fun _=>False,fun _=>0⟩
theorem Zxk (a:List ZaW) (hpre:ZhU a):Zao Tryz.prog 160 [.c (.hs .no Zak a)] (.c (.row 0 0)) [.row Zak a 0 0 none]:=by
 refine bc0 [ZDb] [] [] [] (Zxj a) Tryz.func160 (fun hwf=>?_)
 refine Eq.mpr (β:=T3 (((a.length:Int)=(a.length:Int)∧(0:Int)≤(a.length:Int)∧(a.length:Int)≤(rowMax:Int))∧T2 ((∃ q:Nat,(q≤a.length)∧lxs [hn Zak a, .tp [], .c (.raw (.slice none 0 0)), .c (.row 0 0)] (vI 0 q∧lxs [hn Zak a,ci a.length, .c (.row 0 0)] (TN 14 (lxs [.tp []] True)))∧pt (leB (.row Zak (List.replicate a.length Zj7) 0 0 none) (.row Zak (List.take q a ++ List.replicate (a.length - q) Zj7) 0 0 none)∧True))∧∀ y0:Nat,(y0≤a.length)→T4 (bif ltI y0 a.length then T4 (ix 3 y0 a.length∧True∧pt (ZiN (Zas a y0))∧ix 3 y0 (List.length (List.take y0 a ++ List.replicate (a.length - y0) Zj7))∧True∧∀ r1:List ZaW,r1=List.set (List.take y0 a ++ List.replicate (a.length - y0) Zj7) y0 (Zas a y0)→T3 (∃ y0' : Nat,(y0'≤a.length)∧(a.length - y0') < (a.length - y0)∧lxs [hn Zak a, .tp [], .c (.raw (.slice none 0 0)), .c (.row 0 0)] (vI (w64 ((y0:Int) + 1)) y0'∧lxs [hn Zak a,ci a.length, .c (.row 0 0)] (TN 14 (lxs [.tp []] True)))∧pt (leB (.row Zak r1 0 0 none) (.row Zak (List.take y0' a ++ List.replicate (a.length - y0') Zj7) 0 0 none)∧True))) else T2 (pt ((List.take y0 a ++ List.replicate (a.length - y0) Zj7)=a)))))) (by kernel_rfl) ?_
 unfold T2 T3 T4
 have hp:bulk a≤1048576:=hpre
 have hb:bulk a=a.length + ZaN a:=rfl
 simp only [SIA,eq_self]
 refine ⟨⟨by omega,by unfold rowMax; omega⟩,⟨0,Nat.zero_le _,rfl,Eq.mpr (Za6 (t:=Zak)) rfl⟩,fun k hk=>⟨fun hlt=>?_,fun hge=>?_⟩⟩
 ·have hlt:k < a.length:=by omega
  have hk:=Zat (t:=Zak) hlt
  have hl:(List.take k a ++ List.replicate (List.length a - k) Zj7).length=a.length:=by simp; omega
  have hbn:bulk (Zas a k)≤ZaN a:=ZhI hk
  refine ⟨⟨by omega,by omega⟩,by show bulk _≤_; omega,⟨by omega,by rw [hl]; omega⟩,fun r1 hr=>⟨k + 1,hlt,by omega,Zbs (by unfold maxLen; omega),Eq.mpr (Za6 (t:=Zak)) ?_⟩⟩
  exact ZfN
 ·exact ZfM
def Zxl:ZaE Tryz.prog:=⟨160,[.v (.list Zak)],fun x=>ZhU x.1,fun x=>.c (.row 0 0),fun x=>[.row Zak x.1 0 0 none],fun x hx=>Zxk x.1 hx,Tryz.call160⟩
abbrev ZhV (a:Zb1):Prop:=bulk a≤1048576
theorem Zxm (a:Zb1) (hpre:ZhV a):Zao Tryz.prog 98 [.ag [.bool a.1, .hs .no Zak a.2]] (.ag [.bool a.1, .row 0 0]) [.row Zak a.2 0 0 none]:=by
 refine bc0 [Zxl] [] [] [] L0 Tryz.func98 (fun hwf=>?_)
 refine Eq.mpr (β:=T9 (pt (ZhU a.2)∧T4 (pt ((cB a.1 a.1∧a.2=a.2∧True))))) (by kernel_rfl) ?_
 have hp:bulk a≤1048576:=hpre
 have hb:bulk a=0 + (bulk a.2):=rfl
 exact ZcG
def Zxn:ZaE Tryz.prog:=⟨98,[.s Zdd],fun x=>ZhV x.1,fun x=>.ag [.bool x.1.1, .row 0 0],fun x=>[.row Zak x.1.2 0 0 none],fun x hx=>Zxm x.1 hx,Tryz.call98⟩
theorem ZIe (a:Zdr):Zao Tryz.prog 202 [.ag [.int .i64 a.1, .int .i64 a.2.1, .str a.2.2]] (.ag [.int .i64 a.1, .int .i64 a.2.1, .str a.2.2]) []:=by
 refine bc0 [] [] [] [] L0 Tryz.func202 (fun hwf=>?_)
 refine Eq.mpr (β:=T12 (T5 (pt ((cI a.1 a.1∧cI a.2.1 a.2.1∧cS a.2.2 a.2.2∧True))))) (by kernel_rfl) ?_
 exact ZcG
def ZIf:ZaE Tryz.prog:=⟨202,[.s ZaR],fun x=>True,fun x=>.ag [.int .i64 x.1.1, .int .i64 x.1.2.1, .str x.1.2.2],fun _=>[],fun x hx=>ZIe x.1,Tryz.call202⟩
abbrev ZjF (a:List Zdr):Prop:=bulk a≤1048576
def ZF6 (a:List Zdr):Nat→List AV→Mem→Zbd
 | 3,tm,M=>⟨Nat,fun y=>(Zcf (Zct tm [(4, .c (.int .i64 ((y:Nat):Int)))]) 8 14,Zky M [(0, .row ZaR (List.take y a ++ List.replicate (List.length a - y) Zyn) 0 0 none)]),fun y=>(y≤List.length a),fun y=>(List.length a - y)⟩
 | _,_,_=>⟨Unit,fun _=>([],[]),fun _=>False,fun _=>0⟩
theorem ZF7 (a:List Zdr) (hpre:ZjF a):Zao Tryz.prog 158 [.c (.hs .no ZaR a)] (.c (.row 0 0)) [.row ZaR a 0 0 none]:=by
 refine bc0 [ZIf] [] [] [] (ZF6 a) Tryz.func158 (fun hwf=>?_)
 refine Eq.mpr (β:=T3 (((a.length:Int)=(a.length:Int)∧(0:Int)≤(a.length:Int)∧(a.length:Int)≤(rowMax:Int))∧T2 ((∃ q:Nat,(q≤a.length)∧lxs [hn ZaR a, .tp [], .c (.raw (.slice none 0 0)), .c (.row 0 0)] (vI 0 q∧lxs [hn ZaR a,ci a.length, .c (.row 0 0)] (TN 14 (lxs [.tp []] True)))∧pt (leB (.row ZaR (List.replicate a.length Zyn) 0 0 none) (.row ZaR (List.take q a ++ List.replicate (a.length - q) Zyn) 0 0 none)∧True))∧∀ y0:Nat,(y0≤a.length)→T4 (bif ltI y0 a.length then T4 (ix 3 y0 a.length∧True∧pt True∧ix 3 y0 (List.length (List.take y0 a ++ List.replicate (a.length - y0) Zyn))∧True∧∀ r1:List Zdr,r1=List.set (List.take y0 a ++ List.replicate (a.length - y0) Zyn) y0 (ZaG a y0)→T3 (∃ y0' : Nat,(y0'≤a.length)∧(a.length - y0') < (a.length - y0)∧lxs [hn ZaR a, .tp [], .c (.raw (.slice none 0 0)), .c (.row 0 0)] (vI (w64 ((y0:Int) + 1)) y0'∧lxs [hn ZaR a,ci a.length, .c (.row 0 0)] (TN 14 (lxs [.tp []] True)))∧pt (leB (.row ZaR r1 0 0 none) (.row ZaR (List.take y0' a ++ List.replicate (a.length - y0') Zyn) 0 0 none)∧True))) else T2 (pt ((List.take y0 a ++ List.replicate (a.length - y0) Zyn)=a)))))) (by kernel_rfl) ?_
 unfold T2 T3 T4
 have hp:bulk a≤1048576:=hpre
 have hb:bulk a=a.length + ZaN a:=rfl
 simp only [SIA,eq_self]
 refine ⟨⟨by omega,by unfold rowMax; omega⟩,⟨0,Nat.zero_le _,rfl,Eq.mpr (Za6 (t:=ZaR)) rfl⟩,fun k hk=>⟨fun hlt=>?_,fun hge=>?_⟩⟩
 ·have hlt:k < a.length:=by omega
  have hk:=Zat (t:=ZaR) hlt
  have hl:(List.take k a ++ List.replicate (List.length a - k) Zyn).length=a.length:=by simp; omega
  have hbn:bulk (ZaG a k)≤ZaN a:=ZhI hk
  refine ⟨⟨by omega,by omega⟩,⟨by omega,by rw [hl]; omega⟩,fun r1 hr=>⟨k + 1,hlt,by omega,Zbs (by unfold maxLen; omega),Eq.mpr (Za6 (t:=ZaR)) ?_⟩⟩
  exact ZfN
 ·exact ZfM
def ZF8:ZaE Tryz.prog:=⟨158,[.v (.list ZaR)],fun x=>ZjF x.1,fun x=>.c (.row 0 0),fun x=>[.row ZaR x.1 0 0 none],fun x hx=>ZF7 x.1 hx,Tryz.call158⟩
abbrev ZlE (a:ZaO):Prop:=bulk a≤1048576
theorem ZIg (a:ZaO) (hpre:ZlE a):Zao Tryz.prog 95 [.ag (cellsOf Zaj a)] (.ag [.str a.1, .int .i64 a.2.1, .int .i64 a.2.2.1, .row 0 0]) [.row ZaR a.2.2.2 0 0 none]:=by
 refine bc0 [ZF8] [] [] [] L0 Tryz.func95 (fun hwf=>?_)
 refine Eq.mpr (β:=T12 (T5 (pt (ZjF a.2.2.2)∧T4 (pt ((cS a.1 a.1∧cI a.2.1 a.2.1∧cI a.2.2.1 a.2.2.1∧a.2.2.2=a.2.2.2∧True)))))) (by kernel_rfl) ?_
 have hp:bulk a≤1048576:=hpre
 have hb:bulk a=ByteArray.size a.1 + (0 + (0 + (bulk a.2.2.2))):=rfl
 exact ZcG
def ZIh:ZaE Tryz.prog:=⟨95,[.s Zaj],fun x=>ZlE x.1,fun x=>.ag [.str x.1.1, .int .i64 x.1.2.1, .int .i64 x.1.2.2.1, .row 0 0],fun x=>[.row ZaR x.1.2.2.2 0 0 none],fun x hx=>ZIg x.1 hx,Tryz.call95⟩
abbrev ZjG (a:List ZaO):Prop:=bulk a≤1048576
def ZF9 (a:List ZaO):Nat→List AV→Mem→Zbd
 | 3,tm,M=>⟨Nat,fun y=>(Zcf (Zct tm [(4, .c (.int .i64 ((y:Nat):Int)))]) 8 14,Zky M [(0, .row Zaj (List.take y a ++ List.replicate (List.length a - y) Zq8) 0 0 none)]),fun y=>(y≤List.length a),fun y=>(List.length a - y)⟩
 | _,_,_=>⟨Unit,fun _=>([],[]),fun _=>False,fun _=>0⟩
theorem ZGa (a:List ZaO) (hpre:ZjG a):Zao Tryz.prog 39 [.c (.hs .no Zaj a)] (.c (.row 0 0)) [.row Zaj a 0 0 none]:=by
 refine bc0 [ZIh] [] [] [] (ZF9 a) Tryz.func39 (fun hwf=>?_)
 refine Eq.mpr (β:=T3 (((a.length:Int)=(a.length:Int)∧(0:Int)≤(a.length:Int)∧(a.length:Int)≤(rowMax:Int))∧T2 ((∃ q:Nat,(q≤a.length)∧lxs [hn Zaj a, .tp [], .c (.raw (.slice none 0 0)), .c (.row 0 0)] (vI 0 q∧lxs [hn Zaj a,ci a.length, .c (.row 0 0)] (TN 14 (lxs [.tp []] True)))∧pt (leB (.row Zaj (List.replicate a.length Zq8) 0 0 none) (.row Zaj (List.take q a ++ List.replicate (a.length - q) Zq8) 0 0 none)∧True))∧∀ y0:Nat,(y0≤a.length)→T4 (bif ltI y0 a.length then T4 (ix 4 y0 a.length∧True∧pt (ZlE (Zab a y0))∧ix 4 y0 (List.length (List.take y0 a ++ List.replicate (a.length - y0) Zq8))∧True∧∀ r1:List ZaO,r1=List.set (List.take y0 a ++ List.replicate (a.length - y0) Zq8) y0 (Zab a y0)→T3 (∃ y0' : Nat,(y0'≤a.length)∧(a.length - y0') < (a.length - y0)∧lxs [hn Zaj a, .tp [], .c (.raw (.slice none 0 0)), .c (.row 0 0)] (vI (w64 ((y0:Int) + 1)) y0'∧lxs [hn Zaj a,ci a.length, .c (.row 0 0)] (TN 14 (lxs [.tp []] True)))∧pt (leB (.row Zaj r1 0 0 none) (.row Zaj (List.take y0' a ++ List.replicate (a.length - y0') Zq8) 0 0 none)∧True))) else T2 (pt ((List.take y0 a ++ List.replicate (a.length - y0) Zq8)=a)))))) (by kernel_rfl) ?_
 unfold T2 T3 T4
 have hp:bulk a≤1048576:=hpre
 have hb:bulk a=a.length + ZaN a:=rfl
 simp only [SIA,eq_self]
 refine ⟨⟨by omega,by unfold rowMax; omega⟩,⟨0,Nat.zero_le _,rfl,Eq.mpr (Za6 (t:=Zaj)) rfl⟩,fun k hk=>⟨fun hlt=>?_,fun hge=>?_⟩⟩
 ·have hlt:k < a.length:=by omega
  have hk:=Zat (t:=Zaj) hlt
  have hl:(List.take k a ++ List.replicate (List.length a - k) Zq8).length=a.length:=by simp; omega
  have hbn:bulk (Zab a k)≤ZaN a:=ZhI hk
  refine ⟨⟨by omega,by omega⟩,by show bulk _≤_; omega,⟨by omega,by rw [hl]; omega⟩,fun r1 hr=>⟨k + 1,hlt,by omega,Zbs (by unfold maxLen; omega),Eq.mpr (Za6 (t:=Zaj)) ?_⟩⟩
  exact ZfN
 ·exact ZfM
def ZGb:ZaE Tryz.prog:=⟨39,[.v (.list Zaj)],fun x=>ZjG x.1,fun x=>.c (.row 0 0),fun x=>[.row Zaj x.1 0 0 none],fun x hx=>ZGa x.1 hx,Tryz.call39⟩
theorem Zxo (a:ZaA):Zao Tryz.prog 96 [.ag (cellsOf Zag a)] (.ag [.int .i64 a.1, .int .i64 a.2.1, .int .i64 a.2.2.1, .int .i64 a.2.2.2.1, .str a.2.2.2.2.1, .str a.2.2.2.2.2]) []:=by
 refine bc0 [] [] [] [] L0 Tryz.func96 (fun hwf=>?_)
 refine Eq.mpr (β:=T12 (T12 (T5 (pt ((cI a.1 a.1∧cI a.2.1 a.2.1∧cI a.2.2.1 a.2.2.1∧cI a.2.2.2.1 a.2.2.2.1∧cS a.2.2.2.2.1 a.2.2.2.2.1∧cS a.2.2.2.2.2 a.2.2.2.2.2∧True)))))) (by kernel_rfl) ?_
 exact ZcG
def Zxp:ZaE Tryz.prog:=⟨96,[.s Zag],fun x=>True,fun x=>.ag [.int .i64 x.1.1, .int .i64 x.1.2.1, .int .i64 x.1.2.2.1, .int .i64 x.1.2.2.2.1, .str x.1.2.2.2.2.1, .str x.1.2.2.2.2.2],fun _=>[],fun x hx=>Zxo x.1,Tryz.call96⟩
abbrev ZgR (a:List ZaA):Prop:=bulk a≤1048576
def Zu8 (a:List ZaA):Nat→List AV→Mem→Zbd
 | 3,tm,M=>⟨Nat,fun y=>(Zcf (Zct tm [(4, .c (.int .i64 ((y:Nat):Int)))]) 8 14,Zky M [(0, .row Zag (List.take y a ++ List.replicate (List.length a - y) ZhF) 0 0 none)]),fun y=>(y≤List.length a),fun y=>(List.length a - y)⟩
 | _,_,_=>⟨Unit,fun _=>([],[]),fun _=>False,fun _=>0⟩
theorem Zu9 (a:List ZaA) (hpre:ZgR a):Zao Tryz.prog 40 [.c (.hs .no Zag a)] (.c (.row 0 0)) [.row Zag a 0 0 none]:=by
 refine bc0 [Zxp] [] [] [] (Zu8 a) Tryz.func40 (fun hwf=>?_)
 refine Eq.mpr (β:=T3 (((a.length:Int)=(a.length:Int)∧(0:Int)≤(a.length:Int)∧(a.length:Int)≤(rowMax:Int))∧T2 ((∃ q:Nat,(q≤a.length)∧lxs [hn Zag a, .tp [], .c (.raw (.slice none 0 0)), .c (.row 0 0)] (vI 0 q∧lxs [hn Zag a,ci a.length, .c (.row 0 0)] (TN 14 (lxs [.tp []] True)))∧pt (leB (.row Zag (List.replicate a.length ZhF) 0 0 none) (.row Zag (List.take q a ++ List.replicate (a.length - q) ZhF) 0 0 none)∧True))∧∀ y0:Nat,(y0≤a.length)→T4 (bif ltI y0 a.length then T4 (ix 6 y0 a.length∧True∧pt True∧ix 6 y0 (List.length (List.take y0 a ++ List.replicate (a.length - y0) ZhF))∧True∧∀ r1:List ZaA,r1=List.set (List.take y0 a ++ List.replicate (a.length - y0) ZhF) y0 (Zac a y0)→T3 (∃ y0' : Nat,(y0'≤a.length)∧(a.length - y0') < (a.length - y0)∧lxs [hn Zag a, .tp [], .c (.raw (.slice none 0 0)), .c (.row 0 0)] (vI (w64 ((y0:Int) + 1)) y0'∧lxs [hn Zag a,ci a.length, .c (.row 0 0)] (TN 14 (lxs [.tp []] True)))∧pt (leB (.row Zag r1 0 0 none) (.row Zag (List.take y0' a ++ List.replicate (a.length - y0') ZhF) 0 0 none)∧True))) else T2 (pt ((List.take y0 a ++ List.replicate (a.length - y0) ZhF)=a)))))) (by kernel_rfl) ?_
 unfold T2 T3 T4
 have hp:bulk a≤1048576:=hpre
 have hb:bulk a=a.length + ZaN a:=rfl
 simp only [SIA,eq_self]
 refine ⟨⟨by omega,by unfold rowMax; omega⟩,⟨0,Nat.zero_le _,rfl,Eq.mpr (Za6 (t:=Zag)) rfl⟩,fun k hk=>⟨fun hlt=>?_,fun hge=>?_⟩⟩
 ·have hlt:k < a.length:=by omega
  have hk:=Zat (t:=Zag) hlt
  have hl:(List.take k a ++ List.replicate (List.length a - k) ZhF).length=a.length:=by simp; omega
  have hbn:bulk (Zac a k)≤ZaN a:=ZhI hk
  refine ⟨⟨by omega,by omega⟩,⟨by omega,by rw [hl]; omega⟩,fun r1 hr=>⟨k + 1,hlt,by omega,Zbs (by unfold maxLen; omega),Eq.mpr (Za6 (t:=Zag)) ?_⟩⟩
  exact ZfN
 ·exact ZfM
def Zva:ZaE Tryz.prog:=⟨40,[.v (.list Zag)],fun x=>ZgR x.1,fun x=>.c (.row 0 0),fun x=>[.row Zag x.1 0 0 none],fun x hx=>Zu9 x.1 hx,Tryz.call40⟩
abbrev ZiO (a:ZaI):Prop:=bulk a≤1048576
theorem ZDc (a:ZaI) (hpre:ZiO a):Zao Tryz.prog 19 [.ag (cellsOf ZbJ a)] (.ag [.row 0 0, .row 1 0, .int .i64 a.2.2]) [.row Zaj a.1 0 0 none, .row Zag a.2.1 0 0 none]:=by
 refine bc0 [ZGb,Zva] [] [] [] L0 Tryz.func19 (fun hwf=>?_)
 refine Eq.mpr (β:=T5 (pt (ZjG a.1)∧T4 (pt (ZgR a.2.1)∧T8 (pt ((a.1=a.1∧a.2.1=a.2.1∧cI a.2.2 a.2.2∧True)))))) (by kernel_rfl) ?_
 have hp:bulk a≤1048576:=hpre
 have hb:bulk a=bulk a.1 + (bulk a.2.1 + (0)):=rfl
 exact ZcG
def ZDd:ZaE Tryz.prog:=⟨19,[.s ZbJ],fun x=>ZiO x.1,fun x=>.ag [.row 0 0, .row 1 0, .int .i64 x.1.2.2],fun x=>[.row Zaj x.1.1 0 0 none, .row Zag x.1.2.1 0 0 none],fun x hx=>ZDc x.1 hx,Tryz.call19⟩
theorem ZGc (a:ZbT):Zao Tryz.prog 203 [.ag [.int .i64 a.1, .int .i64 a.2]] (.ag [.int .i64 a.1, .int .i64 a.2]) []:=by
 refine bc0 [] [] [] [] L0 Tryz.func203 (fun hwf=>?_)
 refine Eq.mpr (β:=T12 (True∧pt ((cI a.1 a.1∧cI a.2 a.2∧True)))) (by kernel_rfl) ?_
 exact ZcG
def ZGd:ZaE Tryz.prog:=⟨203,[.s Zay],fun x=>True,fun x=>.ag [.int .i64 x.1.1, .int .i64 x.1.2],fun _=>[],fun x hx=>ZGc x.1,Tryz.call203⟩
abbrev ZiP (a:List ZbT):Prop:=bulk a≤1048576
def ZDe (a:List ZbT):Nat→List AV→Mem→Zbd
 | 3,tm,M=>⟨Nat,fun y=>(Zcf (Zct tm [(4, .c (.int .i64 ((y:Nat):Int)))]) 8 14,Zky M [(0, .row Zay (List.take y a ++ List.replicate (List.length a - y) Zoa) 0 0 none)]),fun y=>(y≤List.length a),fun y=>(List.length a - y)⟩
 | _,_,_=>⟨Unit,fun _=>([],[]),fun _=>False,fun _=>0⟩
theorem ZDf (a:List ZbT) (hpre:ZiP a):Zao Tryz.prog 159 [.c (.hs .no Zay a)] (.c (.row 0 0)) [.row Zay a 0 0 none]:=by
 refine bc0 [ZGd] [] [] [] (ZDe a) Tryz.func159 (fun hwf=>?_)
 refine Eq.mpr (β:=T3 (((a.length:Int)=(a.length:Int)∧(0:Int)≤(a.length:Int)∧(a.length:Int)≤(rowMax:Int))∧T2 ((∃ q:Nat,(q≤a.length)∧lxs [hn Zay a, .tp [], .c (.raw (.slice none 0 0)), .c (.row 0 0)] (vI 0 q∧lxs [hn Zay a,ci a.length, .c (.row 0 0)] (TN 14 (lxs [.tp []] True)))∧pt (leB (.row Zay (List.replicate a.length Zoa) 0 0 none) (.row Zay (List.take q a ++ List.replicate (a.length - q) Zoa) 0 0 none)∧True))∧∀ y0:Nat,(y0≤a.length)→T4 (bif ltI y0 a.length then T4 (ix 2 y0 a.length∧True∧pt True∧ix 2 y0 (List.length (List.take y0 a ++ List.replicate (a.length - y0) Zoa))∧True∧∀ r1:List ZbT,r1=List.set (List.take y0 a ++ List.replicate (a.length - y0) Zoa) y0 (ZaV a y0)→T3 (∃ y0' : Nat,(y0'≤a.length)∧(a.length - y0') < (a.length - y0)∧lxs [hn Zay a, .tp [], .c (.raw (.slice none 0 0)), .c (.row 0 0)] (vI (w64 ((y0:Int) + 1)) y0'∧lxs [hn Zay a,ci a.length, .c (.row 0 0)] (TN 14 (lxs [.tp []] True)))∧pt (leB (.row Zay r1 0 0 none) (.row Zay (List.take y0' a ++ List.replicate (a.length - y0') Zoa) 0 0 none)∧True))) else T2 (pt ((List.take y0 a ++ List.replicate (a.length - y0) Zoa)=a)))))) (by kernel_rfl) ?_
 unfold T2 T3 T4
 have hp:bulk a≤1048576:=hpre
 have hb:bulk a=a.length + ZaN a:=rfl
 simp only [SIA,eq_self]
 refine ⟨⟨by omega,by unfold rowMax; omega⟩,⟨0,Nat.zero_le _,rfl,Eq.mpr (Za6 (t:=Zay)) rfl⟩,fun k hk=>⟨fun hlt=>?_,fun hge=>?_⟩⟩
 ·have hlt:k < a.length:=by omega
  have hk:=Zat (t:=Zay) hlt
  have hl:(List.take k a ++ List.replicate (List.length a - k) Zoa).length=a.length:=by simp; omega
  have hbn:bulk (ZaV a k)≤ZaN a:=ZhI hk
  refine ⟨⟨by omega,by omega⟩,⟨by omega,by rw [hl]; omega⟩,fun r1 hr=>⟨k + 1,hlt,by omega,Zbs (by unfold maxLen; omega),Eq.mpr (Za6 (t:=Zay)) ?_⟩⟩
  exact ZfN
 ·exact ZfM
def ZDg:ZaE Tryz.prog:=⟨159,[.v (.list Zay)],fun x=>ZiP x.1,fun x=>.c (.row 0 0),fun x=>[.row Zay x.1 0 0 none],fun x hx=>ZDf x.1 hx,Tryz.call159⟩
abbrev ZjH (a:ZvY):Prop:=bulk a≤1048576
theorem ZGe (a:List ZbT) (hpre:ZjH a):Zao Tryz.prog 97 [.ag [.hs .no Zay a]] (.ag [.row 0 0]) [.row Zay a 0 0 none]:=by
 refine bc0 [ZDg] [] [] [] L0 Tryz.func97 (fun hwf=>?_)
 refine Eq.mpr (β:=T5 (pt (ZiP a)∧T4 (pt ((a=a∧True))))) (by kernel_rfl) ?_
 have hp:bulk a≤1048576:=hpre
 have hb:bulk a=bulk a:=rfl
 exact ZcG
def ZGf:ZaE Tryz.prog:=⟨97,[.s (.list Zay)],fun x=>ZjH x.1,fun x=>.ag [.row 0 0],fun x=>[.row Zay x.1 0 0 none],fun x hx=>ZGe x.1 hx,Tryz.call97⟩
theorem ZGg (a:ZaM):Zao Tryz.prog 205 [.ag (cellsOf Zal a)] (.ag [.int .i64 a.1, .int .i64 a.2.1, .int .i64 a.2.2.1, .str a.2.2.2]) []:=by
 refine bc0 [] [] [] [] L0 Tryz.func205 (fun hwf=>?_)
 refine Eq.mpr (β:=T12 (T9 (pt ((cI a.1 a.1∧cI a.2.1 a.2.1∧cI a.2.2.1 a.2.2.1∧cS a.2.2.2 a.2.2.2∧True))))) (by kernel_rfl) ?_
 exact ZcG
def ZGh:ZaE Tryz.prog:=⟨205,[.s Zal],fun x=>True,fun x=>.ag [.int .i64 x.1.1, .int .i64 x.1.2.1, .int .i64 x.1.2.2.1, .str x.1.2.2.2],fun _=>[],fun x hx=>ZGg x.1,Tryz.call205⟩
abbrev ZiQ (a:List ZaM):Prop:=bulk a≤1048576
def ZDh (a:List ZaM):Nat→List AV→Mem→Zbd
 | 3,tm,M=>⟨Nat,fun y=>(Zcf (Zct tm [(4, .c (.int .i64 ((y:Nat):Int)))]) 8 14,Zky M [(0, .row Zal (List.take y a ++ List.replicate (List.length a - y) Zob) 0 0 none)]),fun y=>(y≤List.length a),fun y=>(List.length a - y)⟩
 | _,_,_=>⟨Unit,fun _=>([],[]),fun _=>False,fun _=>0⟩
theorem ZDi (a:List ZaM) (hpre:ZiQ a):Zao Tryz.prog 161 [.c (.hs .no Zal a)] (.c (.row 0 0)) [.row Zal a 0 0 none]:=by
 refine bc0 [ZGh] [] [] [] (ZDh a) Tryz.func161 (fun hwf=>?_)
 refine Eq.mpr (β:=T3 (((a.length:Int)=(a.length:Int)∧(0:Int)≤(a.length:Int)∧(a.length:Int)≤(rowMax:Int))∧T2 ((∃ q:Nat,(q≤a.length)∧lxs [hn Zal a, .tp [], .c (.raw (.slice none 0 0)), .c (.row 0 0)] (vI 0 q∧lxs [hn Zal a,ci a.length, .c (.row 0 0)] (TN 14 (lxs [.tp []] True)))∧pt (leB (.row Zal (List.replicate a.length Zob) 0 0 none) (.row Zal (List.take q a ++ List.replicate (a.length - q) Zob) 0 0 none)∧True))∧∀ y0:Nat,(y0≤a.length)→T4 (bif ltI y0 a.length then T4 (ix 4 y0 a.length∧True∧pt True∧ix 4 y0 (List.length (List.take y0 a ++ List.replicate (a.length - y0) Zob))∧True∧∀ r1:List ZaM,r1=List.set (List.take y0 a ++ List.replicate (a.length - y0) Zob) y0 (Zaf a y0)→T3 (∃ y0' : Nat,(y0'≤a.length)∧(a.length - y0') < (a.length - y0)∧lxs [hn Zal a, .tp [], .c (.raw (.slice none 0 0)), .c (.row 0 0)] (vI (w64 ((y0:Int) + 1)) y0'∧lxs [hn Zal a,ci a.length, .c (.row 0 0)] (TN 14 (lxs [.tp []] True)))∧pt (leB (.row Zal r1 0 0 none) (.row Zal (List.take y0' a ++ List.replicate (a.length - y0') Zob) 0 0 none)∧True))) else T2 (pt ((List.take y0 a ++ List.replicate (a.length - y0) Zob)=a)))))) (by kernel_rfl) ?_
 unfold T2 T3 T4
 have hp:bulk a≤1048576:=hpre
 have hb:bulk a=a.length + ZaN a:=rfl
 simp only [SIA,eq_self]
 refine ⟨⟨by omega,by unfold rowMax; omega⟩,⟨0,Nat.zero_le _,rfl,Eq.mpr (Za6 (t:=Zal)) rfl⟩,fun k hk=>⟨fun hlt=>?_,fun hge=>?_⟩⟩
 ·have hlt:k < a.length:=by omega
  have hk:=Zat (t:=Zal) hlt
  have hl:(List.take k a ++ List.replicate (List.length a - k) Zob).length=a.length:=by simp; omega
  have hbn:bulk (Zaf a k)≤ZaN a:=ZhI hk
  refine ⟨⟨by omega,by omega⟩,⟨by omega,by rw [hl]; omega⟩,fun r1 hr=>⟨k + 1,hlt,by omega,Zbs (by unfold maxLen; omega),Eq.mpr (Za6 (t:=Zal)) ?_⟩⟩
  exact ZfN
 ·exact ZfM
def ZDj:ZaE Tryz.prog:=⟨161,[.v (.list Zal)],fun x=>ZiQ x.1,fun x=>.c (.row 0 0),fun x=>[.row Zal x.1 0 0 none],fun x hx=>ZDi x.1 hx,Tryz.call161⟩
abbrev ZiR (a:ZbH):Prop:=bulk a≤1048576
theorem ZDk (a:ZbH) (hpre:ZiR a):Zao Tryz.prog 99 [.ag [.hs .no Zal a.1, .bool a.2.1, .bool a.2.2]] (.ag [.row 0 0, .bool a.2.1, .bool a.2.2]) [.row Zal a.1 0 0 none]:=by
 refine bc0 [ZDj] [] [] [] L0 Tryz.func99 (fun hwf=>?_)
 refine Eq.mpr (β:=T5 (pt (ZiQ a.1)∧T12 (pt ((a.1=a.1∧cB a.2.1 a.2.1∧cB a.2.2 a.2.2∧True))))) (by kernel_rfl) ?_
 have hp:bulk a≤1048576:=hpre
 have hb:bulk a=bulk a.1 + (0 + (0)):=rfl
 exact ZcG
def ZDl:ZaE Tryz.prog:=⟨99,[.s Zdv],fun x=>ZiR x.1,fun x=>.ag [.row 0 0, .bool x.1.2.1, .bool x.1.2.2],fun x=>[.row Zal x.1.1 0 0 none],fun x hx=>ZDk x.1 hx,Tryz.call99⟩
theorem ZIi (a:ZsC):Zao Tryz.prog 101 [.ag [.str a.1, .str a.2]] (.ag [.str a.1, .str a.2]) []:=by
 refine bc0 [] [] [] [] L0 Tryz.func101 (fun hwf=>?_)
 refine Eq.mpr (β:=T12 (True∧pt ((cS a.1 a.1∧cS a.2 a.2∧True)))) (by kernel_rfl) ?_
 exact ZcG
def ZIj:ZaE Tryz.prog:=⟨101,[.s Zmx],fun x=>True,fun x=>.ag [.str x.1.1, .str x.1.2],fun _=>[],fun x hx=>ZIi x.1,Tryz.call101⟩
theorem ZKf (a:GIn):Zao Tryz.prog 100 [.ag [.str a.1, .bool a.2]] (.ag [.str a.1, .bool a.2]) []:=by
 refine bc0 [] [] [] [] L0 Tryz.func100 (fun hwf=>?_)
 refine Eq.mpr (β:=T12 (True∧pt ((cS a.1 a.1∧cB a.2 a.2∧True)))) (by kernel_rfl) ?_
 exact ZcG
def ZKg:ZaE Tryz.prog:=⟨100,[.s ZEU],fun x=>True,fun x=>.ag [.str x.1.1, .bool x.1.2],fun _=>[],fun x hx=>ZKf x.1,Tryz.call100⟩
abbrev ZgS (a:Zad):Prop:=bulk a≤1048576
theorem Zvb (a:Zad) (hpre:ZgS a):Zao Tryz.prog 41 [.ag (cellsOf Zae a)] (.ag [.bool a.1, .int .i64 a.2.1, .int .i64 a.2.2.1, .int .i64 a.2.2.2.1, .row 0 0, .bool a.2.2.2.2.2.1.1, .row 1 0, .str a.2.2.2.2.2.2.1, .str a.2.2.2.2.2.2.2.1, .row 2 0, .bool a.2.2.2.2.2.2.2.2.1.2.1, .bool a.2.2.2.2.2.2.2.2.1.2.2, .str a.2.2.2.2.2.2.2.2.2.1.1, .bool a.2.2.2.2.2.2.2.2.2.1.2, .str a.2.2.2.2.2.2.2.2.2.2.1.1, .str a.2.2.2.2.2.2.2.2.2.2.1.2, .int .i64 a.2.2.2.2.2.2.2.2.2.2.2]) [.row Zay a.2.2.2.2.1 0 0 none, .row Zak a.2.2.2.2.2.1.2 0 0 none, .row Zal a.2.2.2.2.2.2.2.2.1.1 0 0 none]:=by
 refine bc0 [ZGf,Zxn,ZDl,ZKg,ZIj] [] [] [] L0 Tryz.func41 (fun hwf=>?_)
 refine Eq.mpr (β:=T12 (T9 (pt (ZjH a.2.2.2.2.1)∧T4 (pt (ZhV a.2.2.2.2.2.1)∧T12 (pt (ZiR a.2.2.2.2.2.2.2.2.1)∧T4 (pt True∧T4 (pt True∧T8 (pt ((cB a.1 a.1∧cI a.2.1 a.2.1∧cI a.2.2.1 a.2.2.1∧cI a.2.2.2.1 a.2.2.2.1∧a.2.2.2.2.1=a.2.2.2.2.1∧cB a.2.2.2.2.2.1.1 a.2.2.2.2.2.1.1∧a.2.2.2.2.2.1.2=a.2.2.2.2.2.1.2∧cS a.2.2.2.2.2.2.1 a.2.2.2.2.2.2.1∧cS a.2.2.2.2.2.2.2.1 a.2.2.2.2.2.2.2.1∧a.2.2.2.2.2.2.2.2.1.1=a.2.2.2.2.2.2.2.2.1.1∧cB a.2.2.2.2.2.2.2.2.1.2.1 a.2.2.2.2.2.2.2.2.1.2.1∧cB a.2.2.2.2.2.2.2.2.1.2.2 a.2.2.2.2.2.2.2.2.1.2.2∧cS a.2.2.2.2.2.2.2.2.2.1.1 a.2.2.2.2.2.2.2.2.2.1.1∧cB a.2.2.2.2.2.2.2.2.2.1.2 a.2.2.2.2.2.2.2.2.2.1.2∧cS a.2.2.2.2.2.2.2.2.2.2.1.1 a.2.2.2.2.2.2.2.2.2.2.1.1∧cS a.2.2.2.2.2.2.2.2.2.2.1.2 a.2.2.2.2.2.2.2.2.2.2.1.2∧cI a.2.2.2.2.2.2.2.2.2.2.2 a.2.2.2.2.2.2.2.2.2.2.2∧True)))))))))) (by kernel_rfl) ?_
 unfold T12 T4 T8 T9
 have hp:bulk a≤1048576:=hpre
 have hb:bulk a=0 + (0 + (0 + (0 + (bulk a.2.2.2.2.1 + (bulk a.2.2.2.2.2.1 + (ByteArray.size a.2.2.2.2.2.2.1 + (ByteArray.size a.2.2.2.2.2.2.2.1 + (bulk a.2.2.2.2.2.2.2.2.1 + (bulk a.2.2.2.2.2.2.2.2.2.1 + (bulk a.2.2.2.2.2.2.2.2.2.2.1 + (0))))))))))):=rfl
 exact ZcG
def Zvc:ZaE Tryz.prog:=⟨41,[.s Zae],fun x=>ZgS x.1,fun x=>.ag [.bool x.1.1, .int .i64 x.1.2.1, .int .i64 x.1.2.2.1, .int .i64 x.1.2.2.2.1, .row 0 0, .bool x.1.2.2.2.2.2.1.1, .row 1 0, .str x.1.2.2.2.2.2.2.1, .str x.1.2.2.2.2.2.2.2.1, .row 2 0, .bool x.1.2.2.2.2.2.2.2.2.1.2.1, .bool x.1.2.2.2.2.2.2.2.2.1.2.2, .str x.1.2.2.2.2.2.2.2.2.2.1.1, .bool x.1.2.2.2.2.2.2.2.2.2.1.2, .str x.1.2.2.2.2.2.2.2.2.2.2.1.1, .str x.1.2.2.2.2.2.2.2.2.2.2.1.2, .int .i64 x.1.2.2.2.2.2.2.2.2.2.2.2],fun x=>[.row Zay x.1.2.2.2.2.1 0 0 none, .row Zak x.1.2.2.2.2.2.1.2 0 0 none, .row Zal x.1.2.2.2.2.2.2.2.2.1.1 0 0 none],fun x hx=>Zvb x.1 hx,Tryz.call41⟩
abbrev ZfT (a:List Zad):Prop:=bulk a≤1048576
def Zsn (a:List Zad):Nat→List AV→Mem→Zbd
 | 3,tm,M=>⟨Nat,fun y=>(Zcf (Zct tm [(4, .c (.int .i64 ((y:Nat):Int)))]) 8 14,Zky M [(0, .row Zae (List.take y a ++ List.replicate (List.length a - y) ZfK) 0 0 none)]),fun y=>(y≤List.length a),fun y=>(List.length a - y)⟩
 | _,_,_=>⟨Unit,fun _=>([],[]),fun _=>False,fun _=>0⟩
theorem Zso (a:List Zad) (hpre:ZfT a):Zao Tryz.prog 20 [.c (.hs .no Zae a)] (.c (.row 0 0)) [.row Zae a 0 0 none]:=by
 refine bc0 [Zvc] [] [] [] (Zsn a) Tryz.func20 (fun hwf=>?_)
 refine Eq.mpr (β:=T3 (((a.length:Int)=(a.length:Int)∧(0:Int)≤(a.length:Int)∧(a.length:Int)≤(rowMax:Int))∧T2 ((∃ q:Nat,(q≤a.length)∧lxs [hn Zae a, .tp [], .c (.raw (.slice none 0 0)), .c (.row 0 0)] (vI 0 q∧lxs [hn Zae a,ci a.length, .c (.row 0 0)] (TN 14 (lxs [.tp []] True)))∧pt (leB (.row Zae (List.replicate a.length ZfK) 0 0 none) (.row Zae (List.take q a ++ List.replicate (a.length - q) ZfK) 0 0 none)∧True))∧∀ y0:Nat,(y0≤a.length)→T4 (bif ltI y0 a.length then T4 (ix 17 y0 a.length∧True∧pt (ZgS (Zaa a y0))∧ix 17 y0 (List.length (List.take y0 a ++ List.replicate (a.length - y0) ZfK))∧True∧∀ r1:List Zad,r1=List.set (List.take y0 a ++ List.replicate (a.length - y0) ZfK) y0 (Zaa a y0)→T3 (∃ y0' : Nat,(y0'≤a.length)∧(a.length - y0') < (a.length - y0)∧lxs [hn Zae a, .tp [], .c (.raw (.slice none 0 0)), .c (.row 0 0)] (vI (w64 ((y0:Int) + 1)) y0'∧lxs [hn Zae a,ci a.length, .c (.row 0 0)] (TN 14 (lxs [.tp []] True)))∧pt (leB (.row Zae r1 0 0 none) (.row Zae (List.take y0' a ++ List.replicate (a.length - y0') ZfK) 0 0 none)∧True))) else T2 (pt ((List.take y0 a ++ List.replicate (a.length - y0) ZfK)=a)))))) (by kernel_rfl) ?_
 unfold T2 T3 T4
 have hp:bulk a≤1048576:=hpre
 have hb:bulk a=a.length + ZaN a:=rfl
 simp only [SIA,eq_self]
 refine ⟨⟨by omega,by unfold rowMax; omega⟩,⟨0,Nat.zero_le _,rfl,Eq.mpr (Za6 (t:=Zae)) rfl⟩,fun k hk=>⟨fun hlt=>?_,fun hge=>?_⟩⟩
 ·have hlt:k < a.length:=by omega
  have hk:=Zat (t:=Zae) hlt
  have hl:(List.take k a ++ List.replicate (List.length a - k) ZfK).length=a.length:=by simp; omega
  have hbn:bulk (Zaa a k)≤ZaN a:=ZhI hk
  refine ⟨⟨by omega,by omega⟩,by show bulk _≤_; omega,⟨by omega,by rw [hl]; omega⟩,fun r1 hr=>⟨k + 1,hlt,by omega,Zbs (by unfold maxLen; omega),Eq.mpr (Za6 (t:=Zae)) ?_⟩⟩
  exact ZfN
 ·exact ZfM
def Zsp:ZaE Tryz.prog:=⟨20,[.v (.list Zae)],fun x=>ZfT x.1,fun x=>.c (.row 0 0),fun x=>[.row Zae x.1 0 0 none],fun x hx=>Zso x.1 hx,Tryz.call20⟩
abbrev ZdQ (a:ZaT):Prop:=bulk a≤1048576
theorem Zxq (a:ZaT) (hpre:ZdQ a):Zao Tryz.prog 6 [.ag (cellsOf Zbm a)] (.ag [.row 0 0, .row 1 0, .int .i64 a.1.2.2, .row 2 0]) [.row Zaj a.1.1 0 0 none, .row Zag a.1.2.1 0 0 none, .row Zae a.2 0 0 none]:=by
 refine bc0 [ZDd,Zsp] [] [] [] L0 Tryz.func6 (fun hwf=>?_)
 refine Eq.mpr (β:=T5 (pt (ZiO a.1)∧T4 (pt (ZfT a.2)∧T4 (pt ((a.1.1=a.1.1∧a.1.2.1=a.1.2.1∧cI a.1.2.2 a.1.2.2∧a.2=a.2∧True)))))) (by kernel_rfl) ?_
 have hp:bulk a≤1048576:=hpre
 have hb:bulk a=bulk a.1 + (bulk a.2):=rfl
 exact ZcG
def Zxr:ZaE Tryz.prog:=⟨6,[.s Zbm],fun x=>ZdQ x.1,fun x=>.ag [.row 0 0, .row 1 0, .int .i64 x.1.1.2.2, .row 2 0],fun x=>[.row Zaj x.1.1.1 0 0 none, .row Zag x.1.1.2.1 0 0 none, .row Zae x.1.2 0 0 none],fun x hx=>Zxq x.1 hx,Tryz.call6⟩
end Go.Proofs.YtafhbjjcpncfnaaGreat
