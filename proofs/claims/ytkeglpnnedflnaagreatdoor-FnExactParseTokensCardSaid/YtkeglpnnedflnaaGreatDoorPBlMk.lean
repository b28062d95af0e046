import Derived.Test.YtkeglpnnedflnaaGreatDoorPMarkB
set_option linter.unusedSimpArgs false
set_option linter.unusedVariables false
set_option maxRecDepth 100000
set_option maxHeartbeats 4000000
namespace Go.Proofs.YtkeglpnnedflnaaGreatDoor
open Go.ChangeShapes Go.WideShapes Go.ChangeAt Go.RowKit Go.Joins Go.Deep
open GoRep (rep bulk)
open GoMark (mrk cnt mrkI cntI)
abbrev Zau (a:List ByteArray) (m:Int):Int:=m + ((cntL a:Nat):Int)
abbrev ZbR (a:List ByteArray) (m:Int):List ByteArray:=markL a m
abbrev ZaQ (a:List ByteArray) (m:Int) (k:Nat):List ByteArray:=ZyU a m k
abbrev ZdZ (a:List ByteArray) (m:Int):Prop:=0≤m∧m + cntL a≤4611686018427387904
def Zm6 (a:List ByteArray) (m:Int):Nat→List AV→Mem→Zbe
 | 2,tm,M=>⟨Nat,fun y=>(Zcp (ZcG tm [(1, .c (.int .i64 (m + ((cntL (List.take y a):Nat):Int)))),(5, .c (.int .i64 ((y:Nat):Int)))]) 6 13,ZgY M [(0, .row Zah (ZaQ a m y) 0 0 none)]),fun y=>(y≤List.length a),fun y=>(List.length a - y)⟩
 | _,_,_=>⟨Unit,fun _=>([],[]),fun _=>False,fun _=>0⟩
theorem Zm7 (a:List ByteArray) (m:Int) (hpre:ZdZ a m):ZdE Tryz.prog 179 (Zdw 0 [(.q false (.list Zah)),(.a (.v ZaF))] (a,m,())) (ZgX 0 [(.q false (.list Zah)),(.a (.v ZaF))] (a,m,())) (ZdR 0 [(.q false (.list Zah)),(.a (.v ZaF))] (ZbR a m,m,()) ++ []) (inpM 0 [(.q false (.list Zah)),(.a (.v ZaF))]) (.c (.int .i64 (Zau a m))):=by
 refine Zce (T:=⟨[Zh1],[],[],[],none,fun _=>[],1,[0],[]⟩) (L:=(Zm6 a m)) Tryz.func179 rfl rfl rfl (by kernel_rfl) (fun hwf hwm=>?_)
 refine Eq.mpr (β:=T2 ((∃ q:Nat,(q≤a.length)∧lxs [.c (.row 0 0)] (vI m (m + (cntL (List.take q a):Int))∧lxs [.tp [], .tp [],ci 0] (vI 0 q∧TN 13 (lxs [.tp []] True)))∧pt (leB (.row Zah a 0 0 none) (.row Zah (ZaQ a m q) 0 0 none)∧True))∧∀ y0:Nat,(y0≤a.length)→T4 (bif ltI y0 (List.length (ZaQ a m y0)) then T3 (pt (ZEz (m + (cntL (List.take y0 a):Int)))∧ix 1 y0 (List.length (ZaQ a m y0))∧True∧∀ r1:List ByteArray,r1=List.set (ZaQ a m y0) y0 (ZiF (m + (cntL (List.take y0 a):Int)))→T6 (∃ y0' : Nat,(y0'≤a.length)∧(a.length - y0') < (a.length - y0)∧lxs [.c (.row 0 0)] (vI (w64 ((m + (cntL (List.take y0 a):Int)) + 1)) (m + (cntL (List.take y0' a):Int))∧lxs [.tp [], .tp [],ci 0] (vI (w64 ((y0:Int) + 1)) y0'∧TN 13 (lxs [.tp []] True)))∧pt (leB (.row Zah r1 0 0 none) (.row Zah (ZaQ a m y0') 0 0 none)∧True))) else T2 (pt (((ZaQ a m y0)=ZbR a m∧True)∧cI (m + (cntL (List.take y0 a):Int)) (Zau a m)))))) (by kernel_rfl) ?_
 unfold T2 T3 T4 T6
 obtain ⟨hm0,hm1⟩:=hpre
 have hlm:a.length≤maxLen:=hwm.1.1
 unfold maxLen at hlm
 simp only [SIA,eq_self]
 refine ⟨⟨0,Nat.zero_le _,⟨by simp [cntL],rfl⟩,Eq.mpr (Za9 (t:=Zah)) (ZkG a m).symm⟩,fun k hk=>⟨fun hlt=>?_,fun hge=>?_⟩⟩
 ·have l0:(ZaQ a m k).length=a.length:=ZfU a m k
  have hlt:k < a.length:=by omega
  have hg:a[k]?=some (Zaa a k):=Zat (t:=Zah) hlt
  have hc:cntL (List.take (k + 1) a)=cntL (List.take k a) + (1):=Zfv hg
  have hcl:cntL (List.take (k + 1) a)≤cntL a:=Zjv a (k + 1)
  have hg0:(ZaQ a m k)[k]?=some (Zaa a k):=ZmW hg
  have hk0:k < (ZaQ a m k).length:=by omega
  have e0:Zaa (ZaQ a m k) k=Zaa a k:=Zgw (t:=Zah) hg0
  try simp (disch:=omega) only [Zb9,Zb9,Zau]
  repeat (refine ⟨by first | omega | exact ⟨by omega,by omega⟩ | exact ⟨by omega,by omega,by omega⟩,?_⟩)
  intro r1 h1
  have l1:r1.length=a.length:=by rw [h1,List.length_set]; exact l0
  try rw [e0] at h1
  try dsimp only at h1
  have e1:Zaa r1 k=_:=(congrArg (fun r=>Zaa r k) h1).trans (ZbA (t:=Zah) hk0)
  try rw [e1]
  try simp (disch:=omega) only [Zb9,Zb9,Zau]
  refine ⟨k + 1,hlt,by clear e1 h1 l1 r1; omega,⟨by clear e1 h1 l1 r1; first | omega | (simp (disch:=omega) only [Zb9,Zb9,Zau]; omega),by clear e1 h1 l1 r1; first | omega | exact Zbm (by unfold maxLen; omega)⟩,Eq.mpr (Za9 (t:=Zah)) (h1.trans (ZmX hg ?_))⟩
  exact ZkJ
 ·have l0:(ZaQ a m k).length=a.length:=ZfU a m k
  exact ZkP
def Zm8:Zct Tryz.prog:=⟨179,[(.q false (.list Zah)),(.a (.v ZaF))],fun x=>ZdZ x.1 x.2.1,fun x=>(ZbR x.1 x.2.1,x.2.1,()),fun x=>.c (.int .i64 (Zau x.1 x.2.1)),fun _=>[],fun x hx=>Zm7 x.1 x.2.1 hx,Tryz.call179⟩
abbrev Zax (a:List GToken) (m:Int):Int:=m + ((cntL a:Nat):Int)
abbrev ZbG (a:List GToken) (m:Int):List GToken:=markL a m
abbrev ZaR (a:List GToken) (m:Int) (k:Nat):List GToken:=ZyU a m k
abbrev ZeE (a:List GToken) (m:Int):Prop:=0≤m∧m + cntL a≤4611686018427387904
def Zpp (a:List GToken) (m:Int):Nat→List AV→Mem→Zbe
 | 2,tm,M=>⟨Nat,fun y=>(Zcp (ZcG tm [(1, .c (.int .i64 (m + ((cntL (List.take y a):Nat):Int)))),(5, .c (.int .i64 ((y:Nat):Int)))]) 6 21,ZgY M [(0, .row Zab (ZaR a m y) 0 0 none)]),fun y=>(y≤List.length a),fun y=>(List.length a - y)⟩
 | _,_,_=>⟨Unit,fun _=>([],[]),fun _=>False,fun _=>0⟩
theorem Zpq (a:List GToken) (m:Int) (hpre:ZeE a m):ZdE Tryz.prog 18 (Zdw 0 [(.q false (.list Zab)),(.a (.v ZaF))] (a,m,())) (ZgX 0 [(.q false (.list Zab)),(.a (.v ZaF))] (a,m,())) (ZdR 0 [(.q false (.list Zab)),(.a (.v ZaF))] (ZbG a m,m,()) ++ []) (inpM 0 [(.q false (.list Zab)),(.a (.v ZaF))]) (.c (.int .i64 (Zax a m))):=by
 refine Zce (T:=⟨[Zh1],[],[],[],none,fun _=>[],1,[0],[]⟩) (L:=(Zpp a m)) Tryz.func18 rfl rfl rfl (by kernel_rfl) (fun hwf hwm=>?_)
 refine Eq.mpr (β:=T2 ((∃ q:Nat,(q≤a.length)∧lxs [.c (.row 0 0)] (vI m (m + (cntL (List.take q a):Int))∧lxs [.tp [], .tp [],ci 0] (vI 0 q∧TN 21 (lxs [.tp []] True)))∧pt (leB (.row Zab a 0 0 none) (.row Zab (ZaR a m q) 0 0 none)∧True))∧∀ y0:Nat,(y0≤a.length)→T4 (bif ltI y0 (List.length (ZaR a m y0)) then T3 (ix 2 y0 (List.length (ZaR a m y0))∧T2 (∀ r1:List GToken,r1=List.set (ZaR a m y0) y0 ((m + (cntL (List.take y0 a):Int)),(Zag (ZaR a m y0) y0).2)→T6 (pt (ZEz (w64 ((m + (cntL (List.take y0 a):Int)) + 1)))∧ix 2 y0 r1.length∧T2 (∀ r2:List GToken,r2=List.set r1 y0 ((Zag r1 y0).1,ZiF (w64 ((m + (cntL (List.take y0 a):Int)) + 1)))→T6 (∃ y0' : Nat,(y0'≤a.length)∧(a.length - y0') < (a.length - y0)∧lxs [.c (.row 0 0)] (vI (w64 ((w64 ((m + (cntL (List.take y0 a):Int)) + 1)) + 1)) (m + (cntL (List.take y0' a):Int))∧lxs [.tp [], .tp [],ci 0] (vI (w64 ((y0:Int) + 1)) y0'∧TN 21 (lxs [.tp []] True)))∧pt (leB (.row Zab r2 0 0 none) (.row Zab (ZaR a m y0') 0 0 none)∧True)))))) else T2 (pt (((ZaR a m y0)=ZbG a m∧True)∧cI (m + (cntL (List.take y0 a):Int)) (Zax a m)))))) (by kernel_rfl) ?_
 unfold T2 T3 T4 T6
 obtain ⟨hm0,hm1⟩:=hpre
 have hlm:a.length≤maxLen:=hwm.1.1
 unfold maxLen at hlm
 simp only [SIA,eq_self]
 refine ⟨⟨0,Nat.zero_le _,⟨by simp [cntL],rfl⟩,Eq.mpr (Za9 (t:=Zab)) (ZkG a m).symm⟩,fun k hk=>⟨fun hlt=>?_,fun hge=>?_⟩⟩
 ·have l0:(ZaR a m k).length=a.length:=ZfU a m k
  have hlt:k < a.length:=by omega
  have hg:a[k]?=some (Zag a k):=Zat (t:=Zab) hlt
  have hc:cntL (List.take (k + 1) a)=cntL (List.take k a) + (1 + (1)):=Zfv hg
  have hcl:cntL (List.take (k + 1) a)≤cntL a:=Zjv a (k + 1)
  have hg0:(ZaR a m k)[k]?=some (Zag a k):=ZmW hg
  have hk0:k < (ZaR a m k).length:=by omega
  have e0:Zag (ZaR a m k) k=Zag a k:=Zgw (t:=Zab) hg0
  try simp (disch:=omega) only [Zb9,Zb9,Zau,Zax]
  repeat (refine ⟨by first | omega | exact ⟨by omega,by omega⟩ | exact ⟨by omega,by omega,by omega⟩,?_⟩)
  intro r1 h1
  have l1:r1.length=a.length:=by rw [h1,List.length_set]; exact l0
  try rw [e0] at h1
  try dsimp only at h1
  have e1:Zag r1 k=_:=(congrArg (fun r=>Zag r k) h1).trans (ZbA (t:=Zab) hk0)
  try rw [e1]
  try simp (disch:=omega) only [Zb9,Zb9,Zau,Zax]
  repeat (refine ⟨by first | omega | exact ⟨by omega,by omega⟩ | exact ⟨by omega,by omega,by omega⟩,?_⟩)
  intro r2 h2
  have l2:r2.length=a.length:=by rw [h2,List.length_set]; exact l1
  try rw [e1] at h2
  try dsimp only at h2
  rw [h1,List.set_set] at h2
  have e2:Zag r2 k=_:=(congrArg (fun r=>Zag r k) h2).trans (ZbA (t:=Zab) hk0)
  try rw [e2]
  try simp (disch:=omega) only [Zb9,Zb9,Zau,Zax]
  refine ⟨k + 1,hlt,by clear e1 h1 l1 r1 e2 h2 l2 r2; omega,⟨by clear e1 h1 l1 r1 e2 h2 l2 r2; first | omega | (simp (disch:=omega) only [Zb9,Zb9,Zau,Zax]; omega),by clear e1 h1 l1 r1 e2 h2 l2 r2; first | omega | exact Zbm (by unfold maxLen; omega)⟩,Eq.mpr (Za9 (t:=Zab)) (h2.trans (ZmX hg ?_))⟩
  exact ZkJ
 ·have l0:(ZaR a m k).length=a.length:=ZfU a m k
  exact ZkP
def Zpr:Zct Tryz.prog:=⟨18,[(.q false (.list Zab)),(.a (.v ZaF))],fun x=>ZeE x.1 x.2.1,fun x=>(ZbG x.1 x.2.1,x.2.1,()),fun x=>.c (.int .i64 (Zax x.1 x.2.1)),fun _=>[],fun x hx=>Zpq x.1 x.2.1 hx,Tryz.call18⟩
abbrev ZaJ (a:List Zaj) (m:Int):Int:=m + ((cntL a:Nat):Int)
abbrev Zcq (a:List Zaj) (m:Int):List Zaj:=markL a m
abbrev Za0 (a:List Zaj) (m:Int) (k:Nat):List Zaj:=ZyU a m k
abbrev Ze7 (a:List Zaj) (m:Int):Prop:=0≤m∧m + cntL a≤4611686018427387904
def Zrn (a:List Zaj) (m:Int):Nat→List AV→Mem→Zbe
 | 2,tm,M=>⟨Nat,fun y=>(Zcp (ZcG tm [(1, .c (.int .i64 (m + ((cntL (List.take y a):Nat):Int)))),(5, .c (.int .i64 ((y:Nat):Int)))]) 6 20,ZgY M [(0, .row Zai (Za0 a m y) 0 0 none)]),fun y=>(y≤List.length a),fun y=>(List.length a - y)⟩
 | _,_,_=>⟨Unit,fun _=>([],[]),fun _=>False,fun _=>0⟩
theorem Zro (a:List Zaj) (m:Int) (hpre:Ze7 a m):ZdE Tryz.prog 74 (Zdw 0 [(.q false (.list Zai)),(.a (.v ZaF))] (a,m,())) (ZgX 0 [(.q false (.list Zai)),(.a (.v ZaF))] (a,m,())) (ZdR 0 [(.q false (.list Zai)),(.a (.v ZaF))] (Zcq a m,m,()) ++ []) (inpM 0 [(.q false (.list Zai)),(.a (.v ZaF))]) (.c (.int .i64 (ZaJ a m))):=by
 refine Zce (T:=⟨[],[],[],[],none,fun _=>[],1,[0],[]⟩) (L:=(Zrn a m)) Tryz.func74 rfl rfl rfl (by kernel_rfl) (fun hwf hwm=>?_)
 refine Eq.mpr (β:=T2 ((∃ q:Nat,(q≤a.length)∧lxs [.c (.row 0 0)] (vI m (m + (cntL (List.take q a):Int))∧lxs [.tp [], .tp [],ci 0] (vI 0 q∧TN 20 (lxs [.tp []] True)))∧pt (leB (.row Zai a 0 0 none) (.row Zai (Za0 a m q) 0 0 none)∧True))∧∀ y0:Nat,(y0≤a.length)→T4 (bif ltI y0 (List.length (Za0 a m y0)) then T3 (ix 2 y0 (List.length (Za0 a m y0))∧T2 (∀ r1:List Zaj,r1=List.set (Za0 a m y0) y0 ((m + (cntL (List.take y0 a):Int)),(Zak (Za0 a m y0) y0).2)→T6 (ix 2 y0 r1.length∧T2 (∀ r2:List Zaj,r2=List.set r1 y0 ((Zak r1 y0).1,(w64 ((m + (cntL (List.take y0 a):Int)) + 1)))→T6 (∃ y0' : Nat,(y0'≤a.length)∧(a.length - y0') < (a.length - y0)∧lxs [.c (.row 0 0)] (vI (w64 ((w64 ((m + (cntL (List.take y0 a):Int)) + 1)) + 1)) (m + (cntL (List.take y0' a):Int))∧lxs [.tp [], .tp [],ci 0] (vI (w64 ((y0:Int) + 1)) y0'∧TN 20 (lxs [.tp []] True)))∧pt (leB (.row Zai r2 0 0 none) (.row Zai (Za0 a m y0') 0 0 none)∧True)))))) else T2 (pt (((Za0 a m y0)=Zcq a m∧True)∧cI (m + (cntL (List.take y0 a):Int)) (ZaJ a m)))))) (by kernel_rfl) ?_
 unfold T2 T3 T4 T6
 obtain ⟨hm0,hm1⟩:=hpre
 have hlm:a.length≤maxLen:=hwm.1.1
 unfold maxLen at hlm
 simp only [SIA,eq_self]
 refine ⟨⟨0,Nat.zero_le _,⟨by simp [cntL],rfl⟩,Eq.mpr (Za9 (t:=Zai)) (ZkG a m).symm⟩,fun k hk=>⟨fun hlt=>?_,fun hge=>?_⟩⟩
 ·have l0:(Za0 a m k).length=a.length:=ZfU a m k
  have hlt:k < a.length:=by omega
  have hg:a[k]?=some (Zak a k):=Zat (t:=Zai) hlt
  have hc:cntL (List.take (k + 1) a)=cntL (List.take k a) + (1 + (1)):=Zfv hg
  have hcl:cntL (List.take (k + 1) a)≤cntL a:=Zjv a (k + 1)
  have hg0:(Za0 a m k)[k]?=some (Zak a k):=ZmW hg
  have hk0:k < (Za0 a m k).length:=by omega
  have e0:Zak (Za0 a m k) k=Zak a k:=Zgw (t:=Zai) hg0
  try simp (disch:=omega) only [Zb9,Zb9,Zau,Zax,ZaJ]
  repeat (refine ⟨by first | omega | exact ⟨by omega,by omega⟩ | exact ⟨by omega,by omega,by omega⟩,?_⟩)
  intro r1 h1
  have l1:r1.length=a.length:=by rw [h1,List.length_set]; exact l0
  try rw [e0] at h1
  try dsimp only at h1
  have e1:Zak r1 k=_:=(congrArg (fun r=>Zak r k) h1).trans (ZbA (t:=Zai) hk0)
  try rw [e1]
  try simp (disch:=omega) only [Zb9,Zb9,Zau,Zax,ZaJ]
  repeat (refine ⟨by first | omega | exact ⟨by omega,by omega⟩ | exact ⟨by omega,by omega,by omega⟩,?_⟩)
  intro r2 h2
  have l2:r2.length=a.length:=by rw [h2,List.length_set]; exact l1
  try rw [e1] at h2
  try dsimp only at h2
  rw [h1,List.set_set] at h2
  have e2:Zak r2 k=_:=(congrArg (fun r=>Zak r k) h2).trans (ZbA (t:=Zai) hk0)
  try rw [e2]
  try simp (disch:=omega) only [Zb9,Zb9,Zau,Zax,ZaJ]
  refine ⟨k + 1,hlt,by clear e1 h1 l1 r1 e2 h2 l2 r2; omega,⟨by clear e1 h1 l1 r1 e2 h2 l2 r2; first | omega | (simp (disch:=omega) only [Zb9,Zb9,Zau,Zax,ZaJ]; omega),by clear e1 h1 l1 r1 e2 h2 l2 r2; first | omega | exact Zbm (by unfold maxLen; omega)⟩,Eq.mpr (Za9 (t:=Zai)) (h2.trans (ZmX hg ?_))⟩
  exact ZkJ
 ·have l0:(Za0 a m k).length=a.length:=ZfU a m k
  exact ZkP
def Zrp:Zct Tryz.prog:=⟨74,[(.q false (.list Zai)),(.a (.v ZaF))],fun x=>Ze7 x.1 x.2.1,fun x=>(Zcq x.1 x.2.1,x.2.1,()),fun x=>.c (.int .i64 (ZaJ x.1 x.2.1)),fun _=>[],fun x hx=>Zro x.1 x.2.1 hx,Tryz.call74⟩
abbrev Za7 (a:List GScope) (m:Int):Int:=m + ((cntL a:Nat):Int)
abbrev Zca (a:List GScope) (m:Int):List GScope:=markL a m
abbrev ZaS (a:List GScope) (m:Int) (k:Nat):List GScope:=ZyU a m k
abbrev ZeF (a:List GScope) (m:Int):Prop:=0≤m∧m + cntL a≤4611686018427387904
def Zps (a:List GScope) (m:Int):Nat→List AV→Mem→Zbe
 | 2,tm,M=>⟨Nat,fun y=>(Zcp (ZcG tm [(1, .c (.int .i64 (m + ((cntL (List.take y a):Nat):Int)))),(5, .c (.int .i64 ((y:Nat):Int)))]) 6 27,ZgY M [(0, .row Zae (ZaS a m y) 0 0 none)]),fun y=>(y≤List.length a),fun y=>(List.length a - y)⟩
 | _,_,_=>⟨Unit,fun _=>([],[]),fun _=>False,fun _=>0⟩
theorem Zpt (a:List GScope) (m:Int) (hpre:ZeF a m):ZdE Tryz.prog 132 (Zdw 0 [(.q false (.list Zae)),(.a (.v ZaF))] (a,m,())) (ZgX 0 [(.q false (.list Zae)),(.a (.v ZaF))] (a,m,())) (ZdR 0 [(.q false (.list Zae)),(.a (.v ZaF))] (Zca a m,m,()) ++ []) (inpM 0 [(.q false (.list Zae)),(.a (.v ZaF))]) (.c (.int .i64 (Za7 a m))):=by
 refine Zce (T:=⟨[],[],[],[Zm8],none,fun _=>[],1,[0],[]⟩) (L:=(Zps a m)) Tryz.func132 rfl rfl rfl (by kernel_rfl) (fun hwf hwm=>?_)
 refine Eq.mpr (β:=T2 ((∃ q:Nat,(q≤a.length)∧lxs [.c (.row 0 0)] (vI m (m + (cntL (List.take q a):Int))∧lxs [.tp [], .tp [],ci 0] (vI 0 q∧TN 27 (lxs [.tp []] True)))∧pt (leB (.row Zae a 0 0 none) (.row Zae (ZaS a m q) 0 0 none)∧True))∧∀ y0:Nat,(y0≤a.length)→T4 (bif ltI y0 (List.length (ZaS a m y0)) then T3 (ix 3 y0 (List.length (ZaS a m y0))∧T2 (∀ r1:List GScope,r1=List.set (ZaS a m y0) y0 ((m + (cntL (List.take y0 a):Int)),(Zad (ZaS a m y0) y0).2)→T5 (ix 3 y0 r1.length∧T3 (pt (ZdZ (Zad r1 y0).2.1 (w64 ((m + (cntL (List.take y0 a):Int)) + 1))∧(Zad r1 y0).2.1=(Zad r1 y0).2.1∧True)∧∀ r2:List GScope,r2=List.set r1 y0 ((Zad r1 y0).1,ZbR (Zad r1 y0).2.1 (w64 ((m + (cntL (List.take y0 a):Int)) + 1)),(Zad r1 y0).2.2)→T4 (ix 3 y0 r2.length∧T2 (∀ r3:List GScope,r3=List.set r2 y0 ((Zad r2 y0).1,(Zad r2 y0).2.1,Zau (Zad r1 y0).2.1 (w64 ((m + (cntL (List.take y0 a):Int)) + 1)))→T6 (∃ y0' : Nat,(y0'≤a.length)∧(a.length - y0') < (a.length - y0)∧lxs [.c (.row 0 0)] (vI (w64 (Zau (Zad r1 y0).2.1 (w64 ((m + (cntL (List.take y0 a):Int)) + 1)) + 1)) (m + (cntL (List.take y0' a):Int))∧lxs [.tp [], .tp [],ci 0] (vI (w64 ((y0:Int) + 1)) y0'∧TN 27 (lxs [.tp []] True)))∧pt (leB (.row Zae r3 0 0 none) (.row Zae (ZaS a m y0') 0 0 none)∧True)))))))) else T2 (pt (((ZaS a m y0)=Zca a m∧True)∧cI (m + (cntL (List.take y0 a):Int)) (Za7 a m)))))) (by kernel_rfl) ?_
 unfold T2 T3 T4 T5 T6
 obtain ⟨hm0,hm1⟩:=hpre
 have hlm:a.length≤maxLen:=hwm.1.1
 unfold maxLen at hlm
 simp only [SIA,eq_self]
 refine ⟨⟨0,Nat.zero_le _,⟨by simp [cntL],rfl⟩,Eq.mpr (Za9 (t:=Zae)) (ZkG a m).symm⟩,fun k hk=>⟨fun hlt=>?_,fun hge=>?_⟩⟩
 ·have l0:(ZaS a m k).length=a.length:=ZfU a m k
  have hlt:k < a.length:=by omega
  have hg:a[k]?=some (Zad a k):=Zat (t:=Zae) hlt
  have hc:cntL (List.take (k + 1) a)=cntL (List.take k a) + (1 + (cntL (Zad a k).2.1 + (1))):=Zfv hg
  have hcl:cntL (List.take (k + 1) a)≤cntL a:=Zjv a (k + 1)
  have hg0:(ZaS a m k)[k]?=some (Zad a k):=ZmW hg
  have hk0:k < (ZaS a m k).length:=by omega
  have e0:Zad (ZaS a m k) k=Zad a k:=Zgw (t:=Zae) hg0
  try simp (disch:=omega) only [Zb9,Zb9,Zau,Zax,ZaJ,Za7]
  repeat (refine ⟨by first | omega | exact ⟨by omega,by omega⟩ | exact ⟨by omega,by omega,by omega⟩,?_⟩)
  intro r1 h1
  have l1:r1.length=a.length:=by rw [h1,List.length_set]; exact l0
  try rw [e0] at h1
  try dsimp only at h1
  have e1:Zad r1 k=_:=(congrArg (fun r=>Zad r k) h1).trans (ZbA (t:=Zae) hk0)
  try rw [e1]
  try simp (disch:=omega) only [Zb9,Zb9,Zau,Zax,ZaJ,Za7]
  repeat (refine ⟨by first | omega | exact ⟨by omega,by omega⟩ | exact ⟨by omega,by omega,by omega⟩,?_⟩)
  intro r2 h2
  have l2:r2.length=a.length:=by rw [h2,List.length_set]; exact l1
  try rw [e1] at h2
  try dsimp only at h2
  rw [h1,List.set_set] at h2
  have e2:Zad r2 k=_:=(congrArg (fun r=>Zad r k) h2).trans (ZbA (t:=Zae) hk0)
  try rw [e2]
  try simp (disch:=omega) only [Zb9,Zb9,Zau,Zax,ZaJ,Za7]
  repeat (refine ⟨by first | omega | exact ⟨by omega,by omega⟩ | exact ⟨by omega,by omega,by omega⟩,?_⟩)
  intro r3 h3
  have l3:r3.length=a.length:=by rw [h3,List.length_set]; exact l2
  try rw [e2] at h3
  try dsimp only at h3
  rw [h2,List.set_set] at h3
  have e3:Zad r3 k=_:=(congrArg (fun r=>Zad r k) h3).trans (ZbA (t:=Zae) hk0)
  try rw [e3]
  try simp (disch:=omega) only [Zb9,Zb9,Zau,Zax,ZaJ,Za7]
  refine ⟨k + 1,hlt,by clear e1 h1 l1 r1 e2 h2 l2 r2 e3 h3 l3 r3; omega,⟨by clear e1 h1 l1 r1 e2 h2 l2 r2 e3 h3 l3 r3; first | omega | (simp (disch:=omega) only [Zb9,Zb9,Zau,Zax,ZaJ,Za7]; omega),by clear e1 h1 l1 r1 e2 h2 l2 r2 e3 h3 l3 r3; first | omega | exact Zbm (by unfold maxLen; omega)⟩,Eq.mpr (Za9 (t:=Zae)) (h3.trans (ZmX hg ?_))⟩
  exact ZkJ
 ·have l0:(ZaS a m k).length=a.length:=ZfU a m k
  exact ZkP
def Zpu:Zct Tryz.prog:=⟨132,[(.q false (.list Zae)),(.a (.v ZaF))],fun x=>ZeF x.1 x.2.1,fun x=>(Zca x.1 x.2.1,x.2.1,()),fun x=>.c (.int .i64 (Za7 x.1 x.2.1)),fun _=>[],fun x hx=>Zpt x.1 x.2.1 hx,Tryz.call132⟩
abbrev Zcb (a:GFilter) (m:Int):Int:=m + ((cntI a:Nat):Int)
abbrev Zcc (a:GFilter) (m:Int):GFilter:=mrkI a m
abbrev ZeG (a:GFilter) (m:Int):Prop:=0≤m∧m + cntI a≤4611686018427387904
theorem Zpv (a:GFilter) (m:Int) (hpre:ZeG a m):ZdE Tryz.prog 75 (Zdw 0 [(.q true ZbF),(.a (.v ZaF))] (a,m,())) (ZgX 0 [(.q true ZbF),(.a (.v ZaF))] (a,m,())) (ZdR 0 [(.q true ZbF),(.a (.v ZaF))] (Zcc a m,m,()) ++ []) (inpM 0 [(.q true ZbF),(.a (.v ZaF))]) (.c (.int .i64 (Zcb a m))):=by
 refine Zce (T:=⟨[],[],[],[Zpu],none,fun _=>[],1,[0],[]⟩) (L:=L0) Tryz.func75 rfl rfl rfl (by kernel_rfl) (fun hwf hwm=>?_)
 refine Eq.mpr (β:=T5 (pt (ZeF a.2 m∧a.2=a.2∧True)∧∀ r0:List GScope,r0=Zca a.2 m→T3 (pt ((r0=(Zcc a m).2∧True)∧cI (Za7 a.2 m) (Zcb a m))))) (by kernel_rfl) ?_
 obtain ⟨hm0,hm1⟩:=hpre
 have hc0:cntI a=0 + (cntL a.2):=rfl
 simp only [SIA,eq_self]
 simp only [Zb9,Zau,Zax,ZaJ,Za7,Zcb,ZbR,ZbG,Zcq,Zca,Zcc]
 all_goals exact Zvf
def Zpw:Zct Tryz.prog:=⟨75,[(.q true ZbF),(.a (.v ZaF))],fun x=>ZeG x.1 x.2.1,fun x=>(Zcc x.1 x.2.1,x.2.1,()),fun x=>.c (.int .i64 (Zcb x.1 x.2.1)),fun _=>[],fun x hx=>Zpv x.1 x.2.1 hx,Tryz.call75⟩
abbrev Zbw (a:GCommand) (m:Int):Int:=m + ((cntI a:Nat):Int)
abbrev Zbl (a:GCommand) (m:Int):GCommand:=mrkI a m
abbrev Zd0 (a:GCommand) (m:Int):Prop:=0≤m∧m + cntI a≤4611686018427387904
theorem Zm9 (a:GCommand) (m:Int) (hpre:Zd0 a m):ZdE Tryz.prog 19 (Zdw 0 [(.q true ZaH),(.a (.v ZaF))] (a,m,())) (ZgX 0 [(.q true ZaH),(.a (.v ZaF))] (a,m,())) (ZdR 0 [(.q true ZaH),(.a (.v ZaF))] (Zbl a m,m,()) ++ []) (inpM 0 [(.q true ZaH),(.a (.v ZaF))]) (.c (.int .i64 (Zbw a m))):=by
 refine Zce (T:=⟨[],[],[],[Zrp,Zpw],none,fun _=>[],2,[0,1],[]⟩) (L:=L0) Tryz.func19 rfl rfl rfl (by kernel_rfl) (fun hwf hwm=>?_)
 refine Eq.mpr (β:=T5 (pt (Ze7 a.2.2.2.2.2.1 m∧a.2.2.2.2.2.1=a.2.2.2.2.2.1∧True)∧∀ r0:List Zaj,r0=Zcq a.2.2.2.2.2.1 m→T4 (pt (ZeG a.2.2.2.2.2.2.2.2.2 (ZaJ a.2.2.2.2.2.1 m)∧(cB a.2.2.2.2.2.2.2.2.2.1 a.2.2.2.2.2.2.2.2.2.1∧a.2.2.2.2.2.2.2.2.2.2=a.2.2.2.2.2.2.2.2.2.2∧True)∧True)∧∀ r1:List GScope,r1=(Zcc a.2.2.2.2.2.2.2.2.2 (ZaJ a.2.2.2.2.2.1 m)).2→T3 (pt ((r0=(Zbl a m).2.2.2.2.2.1∧r1=(Zbl a m).2.2.2.2.2.2.2.2.2.2∧True)∧cI (Zcb a.2.2.2.2.2.2.2.2.2 (ZaJ a.2.2.2.2.2.1 m)) (Zbw a m)))))) (by kernel_rfl) ?_
 unfold T3 T4 T5
 obtain ⟨hm0,hm1⟩:=hpre
 have hc0:cntI a=0 + (0 + (0 + (0 + (0 + (cntL a.2.2.2.2.2.1 + (0 + (0 + (0 + (0 + (cntL a.2.2.2.2.2.2.2.2.2.2)))))))))):=rfl
 have hc1:cntI a.2.2.2.2.2.2.2.2.2=0 + (cntL a.2.2.2.2.2.2.2.2.2.2):=rfl
 simp only [SIA,eq_self]
 simp only [Zb9,Zau,Zax,ZaJ,Za7,Zcb,Zbw,ZbR,ZbG,Zcq,Zca,Zcc,Zbl]
 all_goals exact Zvf
def Zna:Zct Tryz.prog:=⟨19,[(.q true ZaH),(.a (.v ZaF))],fun x=>Zd0 x.1 x.2.1,fun x=>(Zbl x.1 x.2.1,x.2.1,()),fun x=>.c (.int .i64 (Zbw x.1 x.2.1)),fun _=>[],fun x hx=>Zm9 x.1 x.2.1 hx,Tryz.call19⟩
end Go.Proofs.YtkeglpnnedflnaaGreatDoor
