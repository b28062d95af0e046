import Derived.Test.YtkompmgleojmlaaGreatFMarkB
set_option linter.unusedSimpArgs false
set_option linter.unusedVariables false
set_option maxRecDepth 100000
set_option maxHeartbeats 4000000
namespace Go.Proofs.YtkompmgleojmlaaGreat
open Go.ChangeShapes Go.WideShapes Go.ChangeAt Go.RowKit Go.Joins Go.Deep
open GoRep (rep bulk)
open GoMark (mrk cnt mrkI cntI)
abbrev Zag (a:List ByteArray) (m:Int):Int:=m + ((cntL a:Nat):Int)
abbrev Zcm (a:List ByteArray) (m:Int):List ByteArray:=markL a m
abbrev Zbg (a:List ByteArray) (m:Int) (k:Nat):List ByteArray:=Zs5 a m k
abbrev Zev (a:List ByteArray) (m:Int):Prop:=0≤m∧m + cntL a≤4611686018427387904
def ZnQ (a:List ByteArray) (m:Int):Nat→List AV→Mem→Zbn
  | 2,tm,M=>⟨Nat,fun y=>(ZcN (ZcV tm [(1, .c (.int .i64 (m + ((cntL (List.take y a):Nat):Int)))),(5, .c (.int .i64 ((y:Nat):Int)))]) 6 13,Zjs M [(0, .row ZaK (Zbg a m y) 0 0 none)]),fun y=>(y≤List.length a),fun y=>(List.length a - y)⟩
  | _,_,_=>⟨Unit,fun _=>([],[]),fun _=>False,fun _=>0⟩
theorem ZnR (a:List ByteArray) (m:Int) (hpre:Zev a m):Zc0 Tryz.prog 209 (ZcX 0 [(.q false (.list ZaK)),(.a (.v ZaC))] (a,m,())) (Zga 0 [(.q false (.list ZaK)),(.a (.v ZaC))] (a,m,())) (ZdF 0 [(.q false (.list ZaK)),(.a (.v ZaC))] (Zcm a m,m,()) ++ []) (inpM 0 [(.q false (.list ZaK)),(.a (.v ZaC))]) (.c (.int .i64 (Zag a m))):=by
  refine Zb1 (T:=⟨[Zb0],[],[],[],none,fun _=>[],1,[0],[]⟩) (L:=(ZnQ a m)) Tryz.func209 rfl rfl rfl (by kernel_rfl) (fun hwf hwm=>?_)
  refine Eq.mpr (β:=(T2 ((∃ q:Nat,(q≤List.length a)∧((lxs [.c (.row 0 0)] (vI m (m + (cntL (List.take q a):Int))∧lxs [.tp [], .tp [],ci 0] (vI 0 q∧TN 13 (lxs [.tp []] True))))∧pt (leB (.row ZaK a 0 0 none) (.row ZaK (Zbg a m q) 0 0 none)∧True)))∧∀ y0:Nat,(y0≤List.length a)→(T4 (bif (ltI y0 (List.length (Zbg a m y0))) then (T3 ((pt (Zfx (m + (cntL (List.take y0 a):Int))))∧((ix 1 y0 (List.length (Zbg a m y0)))∧(True∧∀ r1:List ByteArray,r1=(List.set (Zbg a m y0) y0 (Zb3 (m + (cntL (List.take y0 a):Int))))→(T6 (∃ y0' : Nat,(y0'≤List.length a)∧(List.length a - y0') < (List.length a - y0)∧((lxs [.c (.row 0 0)] (vI (w64 ((m + (cntL (List.take y0 a):Int)) + 1)) (m + (cntL (List.take y0' a):Int))∧lxs [.tp [], .tp [],ci 0] (vI (w64 ((y0:Int) + 1)) y0'∧TN 13 (lxs [.tp []] True))))∧pt (leB (.row ZaK r1 0 0 none) (.row ZaK (Zbg a m y0') 0 0 none)∧True)))))))) else (T2 (pt ((((Zbg a m y0)=(Zcm a m))∧True)∧(cI (m + (cntL (List.take y0 a):Int)) (Zag a m)))))))))) (by kernel_rfl) ?_
  unfold T2 T3 T4 T6
  obtain ⟨hm0,hm1⟩:=hpre
  have hlm:a.length≤maxLen:=hwm.1.1
  unfold maxLen at hlm
  simp only [SIA,eq_self]
  refine ⟨⟨0,Nat.zero_le _,⟨by simp [cntL],rfl⟩,Eq.mpr (ZaV (t:=ZaK)) (ZeU a m).symm⟩,fun k hk=>⟨fun hlt=>?_,fun hge=>?_⟩⟩
  · have l0:(Zbg a m k).length=a.length:=ZcP a m k
    have hlt:k < a.length:=by omega
    have hg:a[k]?=some (ZaJ a k):=Zau (t:=ZaK) hlt
    have hc:cntL (List.take (k + 1) a)=cntL (List.take k a) + (1):=Zch hg
    have hcl:cntL (List.take (k + 1) a)≤cntL a:=ZdA a (k + 1)
    have hg0:(Zbg a m k)[k]?=some (ZaJ a k):=ZgJ hg
    have hk0:k < (Zbg a m k).length:=by omega
    have e0:ZaJ (Zbg a m k) k=ZaJ a k:=ZbU (t:=ZaK) hg0
    try simp (disch:=omega) only [ZaR,ZaR,Zag]
    repeat (refine ⟨by first | omega | exact ⟨by omega,by omega⟩ | exact ⟨by omega,by omega,by omega⟩,?_⟩)
    intro r1 h1
    have l1:r1.length=a.length:=by rw [h1,List.length_set]; exact l0
    try rw [e0] at h1
    try dsimp only at h1
    have e1:ZaJ r1 k=_:=(congrArg (fun r=>ZaJ r k) h1).trans (ZaB (t:=ZaK) hk0)
    try rw [e1]
    try simp (disch:=omega) only [ZaR,ZaR,Zag]
    refine ⟨k + 1,hlt,by clear e1 h1 l1 r1; omega,⟨by clear e1 h1 l1 r1; first | omega | (simp (disch:=omega) only [ZaR,ZaR,Zag]; omega),by clear e1 h1 l1 r1; first | omega | exact ZbN (by unfold maxLen; omega)⟩,Eq.mpr (ZaV (t:=ZaK)) (h1.trans (ZgK hg ?_))⟩
    exact ZeV
  · have l0:(Zbg a m k).length=a.length:=ZcP a m k
    exact ZeX
def ZnS:Zcd Tryz.prog:=⟨209,[(.q false (.list ZaK)),(.a (.v ZaC))],fun x=>Zev x.1 x.2.1,fun x=>(Zcm x.1 x.2.1,x.2.1,()),fun x=>.c (.int .i64 (Zag x.1 x.2.1)),fun _=>[],fun x hx=>ZnR x.1 x.2.1 hx,Tryz.call209⟩
abbrev Zao (a:List Int) (m:Int):Int:=m + ((cntL a:Nat):Int)
abbrev ZjO (a:List Int) (m:Int):List Int:=markL a m
abbrev Zad (a:List Za3) (m:Int):Int:=m + ((cntL a:Nat):Int)
abbrev Zcx (a:List Za3) (m:Int):List Za3:=markL a m
abbrev Zbh (a:List Za3) (m:Int) (k:Nat):List Za3:=Zs5 a m k
abbrev Ze6 (a:List Za3) (m:Int):Prop:=0≤m∧m + cntL a≤4611686018427387904
def Zp5 (a:List Za3) (m:Int):Nat→List AV→Mem→Zbn
  | 2,tm,M=>⟨Nat,fun y=>(ZcN (ZcV tm [(1, .c (.int .i64 (m + ((cntL (List.take y a):Nat):Int)))),(5, .c (.int .i64 ((y:Nat):Int)))]) 6 27,Zjs M [(0, .row Zar (Zbh a m y) 0 0 none)]),fun y=>(y≤List.length a),fun y=>(List.length a - y)⟩
  | _,_,_=>⟨Unit,fun _=>([],[]),fun _=>False,fun _=>0⟩
theorem Zp6 (a:List Za3) (m:Int) (hpre:Ze6 a m):Zc0 Tryz.prog 129 (ZcX 0 [(.q false (.list Zar)),(.a (.v ZaC))] (a,m,())) (Zga 0 [(.q false (.list Zar)),(.a (.v ZaC))] (a,m,())) (ZdF 0 [(.q false (.list Zar)),(.a (.v ZaC))] (Zcx a m,m,()) ++ []) (inpM 0 [(.q false (.list Zar)),(.a (.v ZaC))]) (.c (.int .i64 (Zad a m))):=by
  refine Zb1 (T:=⟨[],[],[],[ZnS],none,fun _=>[],1,[0],[]⟩) (L:=(Zp5 a m)) Tryz.func129 rfl rfl rfl (by kernel_rfl) (fun hwf hwm=>?_)
  refine Eq.mpr (β:=(T2 ((∃ q:Nat,(q≤List.length a)∧((lxs [.c (.row 0 0)] (vI m (m + (cntL (List.take q a):Int))∧lxs [.tp [], .tp [],ci 0] (vI 0 q∧TN 27 (lxs [.tp []] True))))∧pt (leB (.row Zar a 0 0 none) (.row Zar (Zbh a m q) 0 0 none)∧True)))∧∀ y0:Nat,(y0≤List.length a)→(T4 (bif (ltI y0 (List.length (Zbh a m y0))) then (T3 ((ix 3 y0 (List.length (Zbh a m y0)))∧(T2 (∀ r1:List Za3,r1=(List.set (Zbh a m y0) y0 ((m + (cntL (List.take y0 a):Int)),(Zav (Zbh a m y0) y0).2))→(T5 ((ix 3 y0 (List.length r1))∧(T3 ((pt (Zev (Zav r1 y0).2.1 (w64 ((m + (cntL (List.take y0 a):Int)) + 1))∧(((Zav r1 y0).2.1=(Zav r1 y0).2.1)∧True)))∧∀ r2:List Za3,r2=(List.set r1 y0 ((Zav r1 y0).1,(Zcm (Zav r1 y0).2.1 (w64 ((m + (cntL (List.take y0 a):Int)) + 1)),(Zav r1 y0).2.2)))→(T4 ((ix 3 y0 (List.length r2))∧(T2 (∀ r3:List Za3,r3=(List.set r2 y0 ((Zav r2 y0).1,((Zav r2 y0).2.1,Zag (Zav r1 y0).2.1 (w64 ((m + (cntL (List.take y0 a):Int)) + 1)))))→(T6 (∃ y0' : Nat,(y0'≤List.length a)∧(List.length a - y0') < (List.length a - y0)∧((lxs [.c (.row 0 0)] (vI (w64 (Zag (Zav r1 y0).2.1 (w64 ((m + (cntL (List.take y0 a):Int)) + 1)) + 1)) (m + (cntL (List.take y0' a):Int))∧lxs [.tp [], .tp [],ci 0] (vI (w64 ((y0:Int) + 1)) y0'∧TN 27 (lxs [.tp []] True))))∧pt (leB (.row Zar r3 0 0 none) (.row Zar (Zbh a m y0') 0 0 none)∧True)))))))))))))))) else (T2 (pt ((((Zbh a m y0)=(Zcx a m))∧True)∧(cI (m + (cntL (List.take y0 a):Int)) (Zad a m)))))))))) (by kernel_rfl) ?_
  unfold T2 T3 T4 T5 T6
  obtain ⟨hm0,hm1⟩:=hpre
  have hlm:a.length≤maxLen:=hwm.1.1
  unfold maxLen at hlm
  simp only [SIA,eq_self]
  refine ⟨⟨0,Nat.zero_le _,⟨by simp [cntL],rfl⟩,Eq.mpr (ZaV (t:=Zar)) (ZeU a m).symm⟩,fun k hk=>⟨fun hlt=>?_,fun hge=>?_⟩⟩
  · have l0:(Zbh a m k).length=a.length:=ZcP a m k
    have hlt:k < a.length:=by omega
    have hg:a[k]?=some (Zav a k):=Zau (t:=Zar) hlt
    have hc:cntL (List.take (k + 1) a)=cntL (List.take k a) + (1 + (cntL (Zav a k).2.1 + (1))):=Zch hg
    have hcl:cntL (List.take (k + 1) a)≤cntL a:=ZdA a (k + 1)
    have hg0:(Zbh a m k)[k]?=some (Zav a k):=ZgJ hg
    have hk0:k < (Zbh a m k).length:=by omega
    have e0:Zav (Zbh a m k) k=Zav a k:=ZbU (t:=Zar) hg0
    try simp (disch:=omega) only [ZaR,ZaR,Zag,Zao,Zad]
    repeat (refine ⟨by first | omega | exact ⟨by omega,by omega⟩ | exact ⟨by omega,by omega,by omega⟩,?_⟩)
    intro r1 h1
    have l1:r1.length=a.length:=by rw [h1,List.length_set]; exact l0
    try rw [e0] at h1
    try dsimp only at h1
    have e1:Zav r1 k=_:=(congrArg (fun r=>Zav r k) h1).trans (ZaB (t:=Zar) hk0)
    try rw [e1]
    try simp (disch:=omega) only [ZaR,ZaR,Zag,Zao,Zad]
    repeat (refine ⟨by first | omega | exact ⟨by omega,by omega⟩ | exact ⟨by omega,by omega,by omega⟩,?_⟩)
    intro r2 h2
    have l2:r2.length=a.length:=by rw [h2,List.length_set]; exact l1
    try rw [e1] at h2
    try dsimp only at h2
    rw [h1,List.set_set] at h2
    have e2:Zav r2 k=_:=(congrArg (fun r=>Zav r k) h2).trans (ZaB (t:=Zar) hk0)
    try rw [e2]
    try simp (disch:=omega) only [ZaR,ZaR,Zag,Zao,Zad]
    repeat (refine ⟨by first | omega | exact ⟨by omega,by omega⟩ | exact ⟨by omega,by omega,by omega⟩,?_⟩)
    intro r3 h3
    have l3:r3.length=a.length:=by rw [h3,List.length_set]; exact l2
    try rw [e2] at h3
    try dsimp only at h3
    rw [h2,List.set_set] at h3
    have e3:Zav r3 k=_:=(congrArg (fun r=>Zav r k) h3).trans (ZaB (t:=Zar) hk0)
    try rw [e3]
    try simp (disch:=omega) only [ZaR,ZaR,Zag,Zao,Zad]
    refine ⟨k + 1,hlt,by clear e1 h1 l1 r1 e2 h2 l2 r2 e3 h3 l3 r3; omega,⟨by clear e1 h1 l1 r1 e2 h2 l2 r2 e3 h3 l3 r3; first | omega | (simp (disch:=omega) only [ZaR,ZaR,Zag,Zao,Zad]; omega),by clear e1 h1 l1 r1 e2 h2 l2 r2 e3 h3 l3 r3; first | omega | exact ZbN (by unfold maxLen; omega)⟩,Eq.mpr (ZaV (t:=Zar)) (h3.trans (ZgK hg ?_))⟩
    exact ZeV
  · have l0:(Zbh a m k).length=a.length:=ZcP a m k
    exact ZeX
def Zp7:Zcd Tryz.prog:=⟨129,[(.q false (.list Zar)),(.a (.v ZaC))],fun x=>Ze6 x.1 x.2.1,fun x=>(Zcx x.1 x.2.1,x.2.1,()),fun x=>.c (.int .i64 (Zad x.1 x.2.1)),fun _=>[],fun x hx=>Zp6 x.1 x.2.1 hx,Tryz.call129⟩
abbrev Zam (a:ZbP) (m:Int):Int:=m + ((cntI a:Nat):Int)
abbrev Zh9 (a:ZbP) (m:Int):ZbP:=mrkI a m
abbrev Zaq (a:List ZcU) (m:Int):Int:=m + ((cntL a:Nat):Int)
abbrev Zdb (a:List ZcU) (m:Int):List ZcU:=markL a m
abbrev ZbB (a:List ZcU) (m:Int) (k:Nat):List ZcU:=Zs5 a m k
abbrev ZgR (a:List ZcU) (m:Int):Prop:=0≤m∧m + cntL a≤4611686018427387904
def ZtC (a:List ZcU) (m:Int):Nat→List AV→Mem→Zbn
  | 2,tm,M=>⟨Nat,fun y=>(ZcN (ZcV tm [(1, .c (.int .i64 (m + ((cntL (List.take y a):Nat):Int)))),(5, .c (.int .i64 ((y:Nat):Int)))]) 6 28,Zjs M [(0, .row ZaT (ZbB a m y) 0 0 none)]),fun y=>(y≤List.length a),fun y=>(List.length a - y)⟩
  | _,_,_=>⟨Unit,fun _=>([],[]),fun _=>False,fun _=>0⟩
theorem ZtD (a:List ZcU) (m:Int) (hpre:ZgR a m):Zc0 Tryz.prog 208 (ZcX 0 [(.q false (.list ZaT)),(.a (.v ZaC))] (a,m,())) (Zga 0 [(.q false (.list ZaT)),(.a (.v ZaC))] (a,m,())) (ZdF 0 [(.q false (.list ZaT)),(.a (.v ZaC))] (Zdb a m,m,()) ++ []) (inpM 0 [(.q false (.list ZaT)),(.a (.v ZaC))]) (.c (.int .i64 (Zaq a m))):=by
  refine Zb1 (T:=⟨[Zb0],[],[],[],none,fun _=>[],1,[0],[]⟩) (L:=(ZtC a m)) Tryz.func208 rfl rfl rfl (by kernel_rfl) (fun hwf hwm=>?_)
  refine Eq.mpr (β:=(T2 ((∃ q:Nat,(q≤List.length a)∧((lxs [.c (.row 0 0)] (vI m (m + (cntL (List.take q a):Int))∧lxs [.tp [], .tp [],ci 0] (vI 0 q∧TN 28 (lxs [.tp []] True))))∧pt (leB (.row ZaT a 0 0 none) (.row ZaT (ZbB a m q) 0 0 none)∧True)))∧∀ y0:Nat,(y0≤List.length a)→(T4 (bif (ltI y0 (List.length (ZbB a m y0))) then (T3 ((ix 3 y0 (List.length (ZbB a m y0)))∧(T2 (∀ r1:List ZcU,r1=(List.set (ZbB a m y0) y0 ((m + (cntL (List.take y0 a):Int)),(ZaL (ZbB a m y0) y0).2))→(T6 ((ix 3 y0 (List.length r1))∧(T2 (∀ r2:List ZcU,r2=(List.set r1 y0 ((ZaL r1 y0).1,((w64 ((m + (cntL (List.take y0 a):Int)) + 1)),(ZaL r1 y0).2.2)))→(T6 ((pt (Zfx (w64 ((w64 ((m + (cntL (List.take y0 a):Int)) + 1)) + 1))))∧((ix 3 y0 (List.length r2))∧(T2 (∀ r3:List ZcU,r3=(List.set r2 y0 ((ZaL r2 y0).1,((ZaL r2 y0).2.1,Zb3 (w64 ((w64 ((m + (cntL (List.take y0 a):Int)) + 1)) + 1)))))→(T6 (∃ y0' : Nat,(y0'≤List.length a)∧(List.length a - y0') < (List.length a - y0)∧((lxs [.c (.row 0 0)] (vI (w64 ((w64 ((w64 ((m + (cntL (List.take y0 a):Int)) + 1)) + 1)) + 1)) (m + (cntL (List.take y0' a):Int))∧lxs [.tp [], .tp [],ci 0] (vI (w64 ((y0:Int) + 1)) y0'∧TN 28 (lxs [.tp []] True))))∧pt (leB (.row ZaT r3 0 0 none) (.row ZaT (ZbB a m y0') 0 0 none)∧True))))))))))))))))) else (T2 (pt ((((ZbB a m y0)=(Zdb a m))∧True)∧(cI (m + (cntL (List.take y0 a):Int)) (Zaq a m)))))))))) (by kernel_rfl) ?_
  unfold T2 T3 T4 T6
  obtain ⟨hm0,hm1⟩:=hpre
  have hlm:a.length≤maxLen:=hwm.1.1
  unfold maxLen at hlm
  simp only [SIA,eq_self]
  refine ⟨⟨0,Nat.zero_le _,⟨by simp [cntL],rfl⟩,Eq.mpr (ZaV (t:=ZaT)) (ZeU a m).symm⟩,fun k hk=>⟨fun hlt=>?_,fun hge=>?_⟩⟩
  · have l0:(ZbB a m k).length=a.length:=ZcP a m k
    have hlt:k < a.length:=by omega
    have hg:a[k]?=some (ZaL a k):=Zau (t:=ZaT) hlt
    have hc:cntL (List.take (k + 1) a)=cntL (List.take k a) + (1 + (1 + (1))):=Zch hg
    have hcl:cntL (List.take (k + 1) a)≤cntL a:=ZdA a (k + 1)
    have hg0:(ZbB a m k)[k]?=some (ZaL a k):=ZgJ hg
    have hk0:k < (ZbB a m k).length:=by omega
    have e0:ZaL (ZbB a m k) k=ZaL a k:=ZbU (t:=ZaT) hg0
    try simp (disch:=omega) only [ZaR,ZaR,Zag,Zao,Zad,Zam,Zaq]
    repeat (refine ⟨by first | omega | exact ⟨by omega,by omega⟩ | exact ⟨by omega,by omega,by omega⟩,?_⟩)
    intro r1 h1
    have l1:r1.length=a.length:=by rw [h1,List.length_set]; exact l0
    try rw [e0] at h1
    try dsimp only at h1
    have e1:ZaL r1 k=_:=(congrArg (fun r=>ZaL r k) h1).trans (ZaB (t:=ZaT) hk0)
    try rw [e1]
    try simp (disch:=omega) only [ZaR,ZaR,Zag,Zao,Zad,Zam,Zaq]
    repeat (refine ⟨by first | omega | exact ⟨by omega,by omega⟩ | exact ⟨by omega,by omega,by omega⟩,?_⟩)
    intro r2 h2
    have l2:r2.length=a.length:=by rw [h2,List.length_set]; exact l1
    try rw [e1] at h2
    try dsimp only at h2
    rw [h1,List.set_set] at h2
    have e2:ZaL r2 k=_:=(congrArg (fun r=>ZaL r k) h2).trans (ZaB (t:=ZaT) hk0)
    try rw [e2]
    try simp (disch:=omega) only [ZaR,ZaR,Zag,Zao,Zad,Zam,Zaq]
    repeat (refine ⟨by first | omega | exact ⟨by omega,by omega⟩ | exact ⟨by omega,by omega,by omega⟩,?_⟩)
    intro r3 h3
    have l3:r3.length=a.length:=by rw [h3,List.length_set]; exact l2
    try rw [e2] at h3
    try dsimp only at h3
    rw [h2,List.set_set] at h3
    have e3:ZaL r3 k=_:=(congrArg (fun r=>ZaL r k) h3).trans (ZaB (t:=ZaT) hk0)
    try rw [e3]
    try simp (disch:=omega) only [ZaR,ZaR,Zag,Zao,Zad,Zam,Zaq]
    refine ⟨k + 1,hlt,by clear e1 h1 l1 r1 e2 h2 l2 r2 e3 h3 l3 r3; omega,⟨by clear e1 h1 l1 r1 e2 h2 l2 r2 e3 h3 l3 r3; first | omega | (simp (disch:=omega) only [ZaR,ZaR,Zag,Zao,Zad,Zam,Zaq]; omega),by clear e1 h1 l1 r1 e2 h2 l2 r2 e3 h3 l3 r3; first | omega | exact ZbN (by unfold maxLen; omega)⟩,Eq.mpr (ZaV (t:=ZaT)) (h3.trans (ZgK hg ?_))⟩
    exact ZeV
  · have l0:(ZbB a m k).length=a.length:=ZcP a m k
    exact ZeX
def ZtE:Zcd Tryz.prog:=⟨208,[(.q false (.list ZaT)),(.a (.v ZaC))],fun x=>ZgR x.1 x.2.1,fun x=>(Zdb x.1 x.2.1,x.2.1,()),fun x=>.c (.int .i64 (Zaq x.1 x.2.1)),fun _=>[],fun x hx=>ZtD x.1 x.2.1 hx,Tryz.call208⟩
abbrev Zas (a:List ZaM) (m:Int):Int:=m + ((cntL a:Nat):Int)
abbrev Zdc (a:List ZaM) (m:Int):List ZaM:=markL a m
abbrev ZbC (a:List ZaM) (m:Int) (k:Nat):List ZaM:=Zs5 a m k
abbrev ZgS (a:List ZaM) (m:Int):Prop:=0≤m∧m + cntL a≤4611686018427387904
def ZtF (a:List ZaM) (m:Int):Nat→List AV→Mem→Zbn
  | 2,tm,M=>⟨Nat,fun y=>(ZcN (ZcV tm [(1, .c (.int .i64 (m + ((cntL (List.take y a):Nat):Int)))),(5, .c (.int .i64 ((y:Nat):Int)))]) 6 35,Zjs M [(0, .row Zak (ZbC a m y) 0 0 none)]),fun y=>(y≤List.length a),fun y=>(List.length a - y)⟩
  | _,_,_=>⟨Unit,fun _=>([],[]),fun _=>False,fun _=>0⟩
theorem ZtG (a:List ZaM) (m:Int) (hpre:ZgS a m):Zc0 Tryz.prog 126 (ZcX 0 [(.q false (.list Zak)),(.a (.v ZaC))] (a,m,())) (Zga 0 [(.q false (.list Zak)),(.a (.v ZaC))] (a,m,())) (ZdF 0 [(.q false (.list Zak)),(.a (.v ZaC))] (Zdc a m,m,()) ++ []) (inpM 0 [(.q false (.list Zak)),(.a (.v ZaC))]) (.c (.int .i64 (Zas a m))):=by
  refine Zb1 (T:=⟨[Zb0],[],[],[ZtE],none,fun _=>[],1,[0],[]⟩) (L:=(ZtF a m)) Tryz.func126 rfl rfl rfl (by kernel_rfl) (fun hwf hwm=>?_)
  refine Eq.mpr (β:=(T2 ((∃ q:Nat,(q≤List.length a)∧((lxs [.c (.row 0 0)] (vI m (m + (cntL (List.take q a):Int))∧lxs [.tp [], .tp [],ci 0] (vI 0 q∧TN 35 (lxs [.tp []] True))))∧pt (leB (.row Zak a 0 0 none) (.row Zak (ZbC a m q) 0 0 none)∧True)))∧∀ y0:Nat,(y0≤List.length a)→(T4 (bif (ltI y0 (List.length (ZbC a m y0))) then (T3 ((pt (Zfx (m + (cntL (List.take y0 a):Int))))∧((ix 4 y0 (List.length (ZbC a m y0)))∧(T2 (∀ r1:List ZaM,r1=(List.set (ZbC a m y0) y0 (Zb3 (m + (cntL (List.take y0 a):Int)),(Zab (ZbC a m y0) y0).2))→(T6 ((ix 4 y0 (List.length r1))∧(T2 (∀ r2:List ZaM,r2=(List.set r1 y0 ((Zab r1 y0).1,((w64 ((m + (cntL (List.take y0 a):Int)) + 1)),(Zab r1 y0).2.2)))→(T6 ((ix 4 y0 (List.length r2))∧(T2 (∀ r3:List ZaM,r3=(List.set r2 y0 ((Zab r2 y0).1,((Zab r2 y0).2.1,((w64 ((w64 ((m + (cntL (List.take y0 a):Int)) + 1)) + 1)),(Zab r2 y0).2.2.2))))→(T5 ((ix 4 y0 (List.length r3))∧(T3 ((pt (ZgR (Zab r3 y0).2.2.2 (w64 ((w64 ((w64 ((m + (cntL (List.take y0 a):Int)) + 1)) + 1)) + 1))∧(((Zab r3 y0).2.2.2=(Zab r3 y0).2.2.2)∧True)))∧∀ r4:List ZaM,r4=(List.set r3 y0 ((Zab r3 y0).1,((Zab r3 y0).2.1,((Zab r3 y0).2.2.1,Zdb (Zab r3 y0).2.2.2 (w64 ((w64 ((w64 ((m + (cntL (List.take y0 a):Int)) + 1)) + 1)) + 1))))))→(T4 (∃ y0' : Nat,(y0'≤List.length a)∧(List.length a - y0') < (List.length a - y0)∧((lxs [.c (.row 0 0)] (vI (Zaq (Zab r3 y0).2.2.2 (w64 ((w64 ((w64 ((m + (cntL (List.take y0 a):Int)) + 1)) + 1)) + 1))) (m + (cntL (List.take y0' a):Int))∧lxs [.tp [], .tp [],ci 0] (vI (w64 ((y0:Int) + 1)) y0'∧TN 35 (lxs [.tp []] True))))∧pt (leB (.row Zak r4 0 0 none) (.row Zak (ZbC a m y0') 0 0 none)∧True))))))))))))))))))))) else (T2 (pt ((((ZbC a m y0)=(Zdc a m))∧True)∧(cI (m + (cntL (List.take y0 a):Int)) (Zas a m)))))))))) (by kernel_rfl) ?_
  unfold T2 T3 T4 T5 T6
  obtain ⟨hm0,hm1⟩:=hpre
  have hlm:a.length≤maxLen:=hwm.1.1
  unfold maxLen at hlm
  simp only [SIA,eq_self]
  refine ⟨⟨0,Nat.zero_le _,⟨by simp [cntL],rfl⟩,Eq.mpr (ZaV (t:=Zak)) (ZeU a m).symm⟩,fun k hk=>⟨fun hlt=>?_,fun hge=>?_⟩⟩
  · have l0:(ZbC a m k).length=a.length:=ZcP a m k
    have hlt:k < a.length:=by omega
    have hg:a[k]?=some (Zab a k):=Zau (t:=Zak) hlt
    have hc:cntL (List.take (k + 1) a)=cntL (List.take k a) + (1 + (1 + (1 + (cntL (Zab a k).2.2.2)))):=Zch hg
    have hcl:cntL (List.take (k + 1) a)≤cntL a:=ZdA a (k + 1)
    have hg0:(ZbC a m k)[k]?=some (Zab a k):=ZgJ hg
    have hk0:k < (ZbC a m k).length:=by omega
    have e0:Zab (ZbC a m k) k=Zab a k:=ZbU (t:=Zak) hg0
    try simp (disch:=omega) only [ZaR,ZaR,Zag,Zao,Zad,Zam,Zaq,Zas]
    repeat (refine ⟨by first | omega | exact ⟨by omega,by omega⟩ | exact ⟨by omega,by omega,by omega⟩,?_⟩)
    intro r1 h1
    have l1:r1.length=a.length:=by rw [h1,List.length_set]; exact l0
    try rw [e0] at h1
    try dsimp only at h1
    have e1:Zab r1 k=_:=(congrArg (fun r=>Zab r k) h1).trans (ZaB (t:=Zak) hk0)
    try rw [e1]
    try simp (disch:=omega) only [ZaR,ZaR,Zag,Zao,Zad,Zam,Zaq,Zas]
    repeat (refine ⟨by first | omega | exact ⟨by omega,by omega⟩ | exact ⟨by omega,by omega,by omega⟩,?_⟩)
    intro r2 h2
    have l2:r2.length=a.length:=by rw [h2,List.length_set]; exact l1
    try rw [e1] at h2
    try dsimp only at h2
    rw [h1,List.set_set] at h2
    have e2:Zab r2 k=_:=(congrArg (fun r=>Zab r k) h2).trans (ZaB (t:=Zak) hk0)
    try rw [e2]
    try simp (disch:=omega) only [ZaR,ZaR,Zag,Zao,Zad,Zam,Zaq,Zas]
    repeat (refine ⟨by first | omega | exact ⟨by omega,by omega⟩ | exact ⟨by omega,by omega,by omega⟩,?_⟩)
    intro r3 h3
    have l3:r3.length=a.length:=by rw [h3,List.length_set]; exact l2
    try rw [e2] at h3
    try dsimp only at h3
    rw [h2,List.set_set] at h3
    have e3:Zab r3 k=_:=(congrArg (fun r=>Zab r k) h3).trans (ZaB (t:=Zak) hk0)
    try rw [e3]
    try simp (disch:=omega) only [ZaR,ZaR,Zag,Zao,Zad,Zam,Zaq,Zas]
    repeat (refine ⟨by first | omega | exact ⟨by omega,by omega⟩ | exact ⟨by omega,by omega,by omega⟩,?_⟩)
    intro r4 h4
    have l4:r4.length=a.length:=by rw [h4,List.length_set]; exact l3
    try rw [e3] at h4
    try dsimp only at h4
    rw [h3,List.set_set] at h4
    have e4:Zab r4 k=_:=(congrArg (fun r=>Zab r k) h4).trans (ZaB (t:=Zak) hk0)
    try rw [e4]
    try simp (disch:=omega) only [ZaR,ZaR,Zag,Zao,Zad,Zam,Zaq,Zas]
    refine ⟨k + 1,hlt,by clear e1 h1 l1 r1 e2 h2 l2 r2 e3 h3 l3 r3 e4 h4 l4 r4; omega,⟨by clear e1 h1 l1 r1 e2 h2 l2 r2 e3 h3 l3 r3 e4 h4 l4 r4; first | omega | (simp (disch:=omega) only [ZaR,ZaR,Zag,Zao,Zad,Zam,Zaq,Zas]; omega),by clear e1 h1 l1 r1 e2 h2 l2 r2 e3 h3 l3 r3 e4 h4 l4 r4; first | omega | exact ZbN (by unfold maxLen; omega)⟩,Eq.mpr (ZaV (t:=Zak)) (h4.trans (ZgK hg ?_))⟩
    exact ZeV
  · have l0:(ZbC a m k).length=a.length:=ZcP a m k
    exact ZeX
def ZtH:Zcd Tryz.prog:=⟨126,[(.q false (.list Zak)),(.a (.v ZaC))],fun x=>ZgS x.1 x.2.1,fun x=>(Zdc x.1 x.2.1,x.2.1,()),fun x=>.c (.int .i64 (Zas x.1 x.2.1)),fun _=>[],fun x hx=>ZtG x.1 x.2.1 hx,Tryz.call126⟩
abbrev Zap (a:List Zax) (m:Int):Int:=m + ((cntL a:Nat):Int)
abbrev Zcn (a:List Zax) (m:Int):List Zax:=markL a m
abbrev Za9 (a:List Zax) (m:Int) (k:Nat):List Zax:=Zs5 a m k
abbrev Zew (a:List Zax) (m:Int):Prop:=0≤m∧m + cntL a≤4611686018427387904
def ZnT (a:List Zax) (m:Int):Nat→List AV→Mem→Zbn
  | 2,tm,M=>⟨Nat,fun y=>(ZcN (ZcV tm [(1, .c (.int .i64 (m + ((cntL (List.take y a):Nat):Int)))),(5, .c (.int .i64 ((y:Nat):Int)))]) 6 50,Zjs M [(0, .row Zah (Za9 a m y) 0 0 none)]),fun y=>(y≤List.length a),fun y=>(List.length a - y)⟩
  | _,_,_=>⟨Unit,fun _=>([],[]),fun _=>False,fun _=>0⟩
theorem ZnU (a:List Zax) (m:Int) (hpre:Zew a m):Zc0 Tryz.prog 127 (ZcX 0 [(.q false (.list Zah)),(.a (.v ZaC))] (a,m,())) (Zga 0 [(.q false (.list Zah)),(.a (.v ZaC))] (a,m,())) (ZdF 0 [(.q false (.list Zah)),(.a (.v ZaC))] (Zcn a m,m,()) ++ []) (inpM 0 [(.q false (.list Zah)),(.a (.v ZaC))]) (.c (.int .i64 (Zap a m))):=by
  refine Zb1 (T:=⟨[Zb0],[],[],[],none,fun _=>[],1,[0],[]⟩) (L:=(ZnT a m)) Tryz.func127 rfl rfl rfl (by kernel_rfl) (fun hwf hwm=>?_)
  refine Eq.mpr (β:=(T2 ((∃ q:Nat,(q≤List.length a)∧((lxs [.c (.row 0 0)] (vI m (m + (cntL (List.take q a):Int))∧lxs [.tp [], .tp [],ci 0] (vI 0 q∧TN 50 (lxs [.tp []] True))))∧pt (leB (.row Zah a 0 0 none) (.row Zah (Za9 a m q) 0 0 none)∧True)))∧∀ y0:Nat,(y0≤List.length a)→(T4 (bif (ltI y0 (List.length (Za9 a m y0))) then (T3 ((ix 6 y0 (List.length (Za9 a m y0)))∧(T2 (∀ r1:List Zax,r1=(List.set (Za9 a m y0) y0 ((m + (cntL (List.take y0 a):Int)),(Zac (Za9 a m y0) y0).2))→(T6 ((ix 6 y0 (List.length r1))∧(T2 (∀ r2:List Zax,r2=(List.set r1 y0 ((Zac r1 y0).1,((w64 ((m + (cntL (List.take y0 a):Int)) + 1)),(Zac r1 y0).2.2)))→(T6 ((ix 6 y0 (List.length r2))∧(T2 (∀ r3:List Zax,r3=(List.set r2 y0 ((Zac r2 y0).1,((Zac r2 y0).2.1,((w64 ((w64 ((m + (cntL (List.take y0 a):Int)) + 1)) + 1)),(Zac r2 y0).2.2.2))))→(T6 ((ix 6 y0 (List.length r3))∧(T2 (∀ r4:List Zax,r4=(List.set r3 y0 ((Zac r3 y0).1,((Zac r3 y0).2.1,((Zac r3 y0).2.2.1,((w64 ((w64 ((w64 ((m + (cntL (List.take y0 a):Int)) + 1)) + 1)) + 1)),(Zac r3 y0).2.2.2.2)))))→(T6 ((pt (Zfx (w64 ((w64 ((w64 ((w64 ((m + (cntL (List.take y0 a):Int)) + 1)) + 1)) + 1)) + 1))))∧((ix 6 y0 (List.length r4))∧(T2 (∀ r5:List Zax,r5=(List.set r4 y0 ((Zac r4 y0).1,((Zac r4 y0).2.1,((Zac r4 y0).2.2.1,((Zac r4 y0).2.2.2.1,(Zb3 (w64 ((w64 ((w64 ((w64 ((m + (cntL (List.take y0 a):Int)) + 1)) + 1)) + 1)) + 1)),(Zac r4 y0).2.2.2.2.2))))))→(T6 ((pt (Zfx (w64 ((w64 ((w64 ((w64 ((w64 ((m + (cntL (List.take y0 a):Int)) + 1)) + 1)) + 1)) + 1)) + 1))))∧((ix 6 y0 (List.length r5))∧(T2 (∀ r6:List Zax,r6=(List.set r5 y0 ((Zac r5 y0).1,((Zac r5 y0).2.1,((Zac r5 y0).2.2.1,((Zac r5 y0).2.2.2.1,((Zac r5 y0).2.2.2.2.1,Zb3 (w64 ((w64 ((w64 ((w64 ((w64 ((m + (cntL (List.take y0 a):Int)) + 1)) + 1)) + 1)) + 1)) + 1))))))))→(T6 (∃ y0' : Nat,(y0'≤List.length a)∧(List.length a - y0') < (List.length a - y0)∧((lxs [.c (.row 0 0)] (vI (w64 ((w64 ((w64 ((w64 ((w64 ((w64 ((m + (cntL (List.take y0 a):Int)) + 1)) + 1)) + 1)) + 1)) + 1)) + 1)) (m + (cntL (List.take y0' a):Int))∧lxs [.tp [], .tp [],ci 0] (vI (w64 ((y0:Int) + 1)) y0'∧TN 50 (lxs [.tp []] True))))∧pt (leB (.row Zah r6 0 0 none) (.row Zah (Za9 a m y0') 0 0 none)∧True)))))))))))))))))))))))))))))) else (T2 (pt ((((Za9 a m y0)=(Zcn a m))∧True)∧(cI (m + (cntL (List.take y0 a):Int)) (Zap a m)))))))))) (by kernel_rfl) ?_
  unfold T2 T3 T4 T6
  obtain ⟨hm0,hm1⟩:=hpre
  have hlm:a.length≤maxLen:=hwm.1.1
  unfold maxLen at hlm
  simp only [SIA,eq_self]
  refine ⟨⟨0,Nat.zero_le _,⟨by simp [cntL],rfl⟩,Eq.mpr (ZaV (t:=Zah)) (ZeU a m).symm⟩,fun k hk=>⟨fun hlt=>?_,fun hge=>?_⟩⟩
  · have l0:(Za9 a m k).length=a.length:=ZcP a m k
    have hlt:k < a.length:=by omega
    have hg:a[k]?=some (Zac a k):=Zau (t:=Zah) hlt
    have hc:cntL (List.take (k + 1) a)=cntL (List.take k a) + (1 + (1 + (1 + (1 + (1 + (1)))))):=Zch hg
    have hcl:cntL (List.take (k + 1) a)≤cntL a:=ZdA a (k + 1)
    have hg0:(Za9 a m k)[k]?=some (Zac a k):=ZgJ hg
    have hk0:k < (Za9 a m k).length:=by omega
    have e0:Zac (Za9 a m k) k=Zac a k:=ZbU (t:=Zah) hg0
    try simp (disch:=omega) only [ZaR,ZaR,Zag,Zao,Zad,Zam,Zaq,Zas,Zap]
    repeat (refine ⟨by first | omega | exact ⟨by omega,by omega⟩ | exact ⟨by omega,by omega,by omega⟩,?_⟩)
    intro r1 h1
    have l1:r1.length=a.length:=by rw [h1,List.length_set]; exact l0
    try rw [e0] at h1
    try dsimp only at h1
    have e1:Zac r1 k=_:=(congrArg (fun r=>Zac r k) h1).trans (ZaB (t:=Zah) hk0)
    try rw [e1]
    try simp (disch:=omega) only [ZaR,ZaR,Zag,Zao,Zad,Zam,Zaq,Zas,Zap]
    repeat (refine ⟨by first | omega | exact ⟨by omega,by omega⟩ | exact ⟨by omega,by omega,by omega⟩,?_⟩)
    intro r2 h2
    have l2:r2.length=a.length:=by rw [h2,List.length_set]; exact l1
    try rw [e1] at h2
    try dsimp only at h2
    rw [h1,List.set_set] at h2
    have e2:Zac r2 k=_:=(congrArg (fun r=>Zac r k) h2).trans (ZaB (t:=Zah) hk0)
    try rw [e2]
    try simp (disch:=omega) only [ZaR,ZaR,Zag,Zao,Zad,Zam,Zaq,Zas,Zap]
    repeat (refine ⟨by first | omega | exact ⟨by omega,by omega⟩ | exact ⟨by omega,by omega,by omega⟩,?_⟩)
    intro r3 h3
    have l3:r3.length=a.length:=by rw [h3,List.length_set]; exact l2
    try rw [e2] at h3
    try dsimp only at h3
    rw [h2,List.set_set] at h3
    have e3:Zac r3 k=_:=(congrArg (fun r=>Zac r k) h3).trans (ZaB (t:=Zah) hk0)
    try rw [e3]
    try simp (disch:=omega) only [ZaR,ZaR,Zag,Zao,Zad,Zam,Zaq,Zas,Zap]
    repeat (refine ⟨by first | omega | exact ⟨by omega,by omega⟩ | exact ⟨by omega,by omega,by omega⟩,?_⟩)
    intro r4 h4
    have l4:r4.length=a.length:=by rw [h4,List.length_set]; exact l3
    try rw [e3] at h4
    try dsimp only at h4
    rw [h3,List.set_set] at h4
    have e4:Zac r4 k=_:=(congrArg (fun r=>Zac r k) h4).trans (ZaB (t:=Zah) hk0)
    try rw [e4]
    try simp (disch:=omega) only [ZaR,ZaR,Zag,Zao,Zad,Zam,Zaq,Zas,Zap]
    repeat (refine ⟨by first | omega | exact ⟨by omega,by omega⟩ | exact ⟨by omega,by omega,by omega⟩,?_⟩)
    intro r5 h5
    have l5:r5.length=a.length:=by rw [h5,List.length_set]; exact l4
    try rw [e4] at h5
    try dsimp only at h5
    rw [h4,List.set_set] at h5
    have e5:Zac r5 k=_:=(congrArg (fun r=>Zac r k) h5).trans (ZaB (t:=Zah) hk0)
    try rw [e5]
    try simp (disch:=omega) only [ZaR,ZaR,Zag,Zao,Zad,Zam,Zaq,Zas,Zap]
    repeat (refine ⟨by first | omega | exact ⟨by omega,by omega⟩ | exact ⟨by omega,by omega,by omega⟩,?_⟩)
    intro r6 h6
    have l6:r6.length=a.length:=by rw [h6,List.length_set]; exact l5
    try rw [e5] at h6
    try dsimp only at h6
    rw [h5,List.set_set] at h6
    have e6:Zac r6 k=_:=(congrArg (fun r=>Zac r k) h6).trans (ZaB (t:=Zah) hk0)
    try rw [e6]
    try simp (disch:=omega) only [ZaR,ZaR,Zag,Zao,Zad,Zam,Zaq,Zas,Zap]
    refine ⟨k + 1,hlt,by clear e1 h1 l1 r1 e2 h2 l2 r2 e3 h3 l3 r3 e4 h4 l4 r4 e5 h5 l5 r5 e6 h6 l6 r6; omega,⟨by clear e1 h1 l1 r1 e2 h2 l2 r2 e3 h3 l3 r3 e4 h4 l4 r4 e5 h5 l5 r5 e6 h6 l6 r6; first | omega | (simp (disch:=omega) only [ZaR,ZaR,Zag,Zao,Zad,Zam,Zaq,Zas,Zap]; omega),by clear e1 h1 l1 r1 e2 h2 l2 r2 e3 h3 l3 r3 e4 h4 l4 r4 e5 h5 l5 r5 e6 h6 l6 r6; first | omega | exact ZbN (by unfold maxLen; omega)⟩,Eq.mpr (ZaV (t:=Zah)) (h6.trans (ZgK hg ?_))⟩
    exact ZeV
  · have l0:(Za9 a m k).length=a.length:=ZcP a m k
    exact ZeX
def ZnV:Zcd Tryz.prog:=⟨127,[(.q false (.list Zah)),(.a (.v ZaC))],fun x=>Zew x.1 x.2.1,fun x=>(Zcn x.1 x.2.1,x.2.1,()),fun x=>.c (.int .i64 (Zap x.1 x.2.1)),fun _=>[],fun x hx=>ZnU x.1 x.2.1 hx,Tryz.call127⟩
abbrev Zaz (a:Za7) (m:Int):Int:=m + ((cntI a:Nat):Int)
abbrev Zb6 (a:Za7) (m:Int):Za7:=mrkI a m
abbrev ZfN (a:Za7) (m:Int):Prop:=0≤m∧m + cntI a≤4611686018427387904
theorem ZrQ (a:Za7) (m:Int) (hpre:ZfN a m):Zc0 Tryz.prog 51 (ZcX 0 [(.q true ZbI),(.a (.v ZaC))] (a,m,())) (Zga 0 [(.q true ZbI),(.a (.v ZaC))] (a,m,())) (ZdF 0 [(.q true ZbI),(.a (.v ZaC))] (Zb6 a m,m,()) ++ []) (inpM 0 [(.q true ZbI),(.a (.v ZaC))]) (.c (.int .i64 (Zaz a m))):=by
  refine Zb1 (T:=⟨[],[],[],[ZtH,ZnV],none,fun _=>[],2,[0,1],[]⟩) (L:=L0) Tryz.func51 rfl rfl rfl (by kernel_rfl) (fun hwf hwm=>?_)
  refine Eq.mpr (β:=(T5 ((pt (ZgS a.1 m∧((a.1=a.1)∧True)))∧∀ r0:List ZaM,r0=Zdc a.1 m→(T4 ((pt (Zew a.2.1 (Zas a.1 m)∧((a.2.1=a.2.1)∧True)))∧∀ r1:List Zax,r1=Zcn a.2.1 (Zas a.1 m)→(T3 (pt (((r0=(Zb6 a m).1)∧(r1=(Zb6 a m).2.1)∧True)∧(cI (Zap a.2.1 (Zas a.1 m)) (Zaz a m)))))))))) (by kernel_rfl) ?_
  obtain ⟨hm0,hm1⟩:=hpre
  have hc0:cntI a=cntL a.1 + (cntL a.2.1 + (0)):=rfl
  simp only [SIA,eq_self]
  simp only [ZaR,Zag,Zao,Zad,Zam,Zaq,Zas,Zap,Zaz,Zcm,ZjO,Zcx,Zh9,Zdb,Zdc,Zcn,Zb6]
  exact Zwe
def ZrR:Zcd Tryz.prog:=⟨51,[(.q true ZbI),(.a (.v ZaC))],fun x=>ZfN x.1 x.2.1,fun x=>(Zb6 x.1 x.2.1,x.2.1,()),fun x=>.c (.int .i64 (Zaz x.1 x.2.1)),fun _=>[],fun x hx=>ZrQ x.1 x.2.1 hx,Tryz.call51⟩
abbrev Zan (a:List Zb9) (m:Int):Int:=m + ((cntL a:Nat):Int)
abbrev Zdm (a:List Zb9) (m:Int):List Zb9:=markL a m
abbrev Zbr (a:List Zb9) (m:Int) (k:Nat):List Zb9:=Zs5 a m k
abbrev ZfO (a:List Zb9) (m:Int):Prop:=0≤m∧m + cntL a≤4611686018427387904
def ZrS (a:List Zb9) (m:Int):Nat→List AV→Mem→Zbn
  | 2,tm,M=>⟨Nat,fun y=>(ZcN (ZcV tm [(1, .c (.int .i64 (m + ((cntL (List.take y a):Nat):Int)))),(5, .c (.int .i64 ((y:Nat):Int)))]) 6 20,Zjs M [(0, .row ZaN (Zbr a m y) 0 0 none)]),fun y=>(y≤List.length a),fun y=>(List.length a - y)⟩
  | _,_,_=>⟨Unit,fun _=>([],[]),fun _=>False,fun _=>0⟩
theorem ZrT (a:List Zb9) (m:Int) (hpre:ZfO a m):Zc0 Tryz.prog 128 (ZcX 0 [(.q false (.list ZaN)),(.a (.v ZaC))] (a,m,())) (Zga 0 [(.q false (.list ZaN)),(.a (.v ZaC))] (a,m,())) (ZdF 0 [(.q false (.list ZaN)),(.a (.v ZaC))] (Zdm a m,m,()) ++ []) (inpM 0 [(.q false (.list ZaN)),(.a (.v ZaC))]) (.c (.int .i64 (Zan a m))):=by
  refine Zb1 (T:=⟨[],[],[],[],none,fun _=>[],1,[0],[]⟩) (L:=(ZrS a m)) Tryz.func128 rfl rfl rfl (by kernel_rfl) (fun hwf hwm=>?_)
  refine Eq.mpr (β:=(T2 ((∃ q:Nat,(q≤List.length a)∧((lxs [.c (.row 0 0)] (vI m (m + (cntL (List.take q a):Int))∧lxs [.tp [], .tp [],ci 0] (vI 0 q∧TN 20 (lxs [.tp []] True))))∧pt (leB (.row ZaN a 0 0 none) (.row ZaN (Zbr a m q) 0 0 none)∧True)))∧∀ y0:Nat,(y0≤List.length a)→(T4 (bif (ltI y0 (List.length (Zbr a m y0))) then (T3 ((ix 2 y0 (List.length (Zbr a m y0)))∧(T2 (∀ r1:List Zb9,r1=(List.set (Zbr a m y0) y0 ((m + (cntL (List.take y0 a):Int)),(ZbE (Zbr a m y0) y0).2))→(T6 ((ix 2 y0 (List.length r1))∧(T2 (∀ r2:List Zb9,r2=(List.set r1 y0 ((ZbE r1 y0).1,(w64 ((m + (cntL (List.take y0 a):Int)) + 1))))→(T6 (∃ y0' : Nat,(y0'≤List.length a)∧(List.length a - y0') < (List.length a - y0)∧((lxs [.c (.row 0 0)] (vI (w64 ((w64 ((m + (cntL (List.take y0 a):Int)) + 1)) + 1)) (m + (cntL (List.take y0' a):Int))∧lxs [.tp [], .tp [],ci 0] (vI (w64 ((y0:Int) + 1)) y0'∧TN 20 (lxs [.tp []] True))))∧pt (leB (.row ZaN r2 0 0 none) (.row ZaN (Zbr a m y0') 0 0 none)∧True)))))))))))) else (T2 (pt ((((Zbr a m y0)=(Zdm a m))∧True)∧(cI (m + (cntL (List.take y0 a):Int)) (Zan a m)))))))))) (by kernel_rfl) ?_
  unfold T2 T3 T4 T6
  obtain ⟨hm0,hm1⟩:=hpre
  have hlm:a.length≤maxLen:=hwm.1.1
  unfold maxLen at hlm
  simp only [SIA,eq_self]
  refine ⟨⟨0,Nat.zero_le _,⟨by simp [cntL],rfl⟩,Eq.mpr (ZaV (t:=ZaN)) (ZeU a m).symm⟩,fun k hk=>⟨fun hlt=>?_,fun hge=>?_⟩⟩
  · have l0:(Zbr a m k).length=a.length:=ZcP a m k
    have hlt:k < a.length:=by omega
    have hg:a[k]?=some (ZbE a k):=Zau (t:=ZaN) hlt
    have hc:cntL (List.take (k + 1) a)=cntL (List.take k a) + (1 + (1)):=Zch hg
    have hcl:cntL (List.take (k + 1) a)≤cntL a:=ZdA a (k + 1)
    have hg0:(Zbr a m k)[k]?=some (ZbE a k):=ZgJ hg
    have hk0:k < (Zbr a m k).length:=by omega
    have e0:ZbE (Zbr a m k) k=ZbE a k:=ZbU (t:=ZaN) hg0
    try simp (disch:=omega) only [ZaR,ZaR,Zag,Zao,Zad,Zam,Zaq,Zas,Zap,Zaz,Zan]
    repeat (refine ⟨by first | omega | exact ⟨by omega,by omega⟩ | exact ⟨by omega,by omega,by omega⟩,?_⟩)
    intro r1 h1
    have l1:r1.length=a.length:=by rw [h1,List.length_set]; exact l0
    try rw [e0] at h1
    try dsimp only at h1
    have e1:ZbE r1 k=_:=(congrArg (fun r=>ZbE r k) h1).trans (ZaB (t:=ZaN) hk0)
    try rw [e1]
    try simp (disch:=omega) only [ZaR,ZaR,Zag,Zao,Zad,Zam,Zaq,Zas,Zap,Zaz,Zan]
    repeat (refine ⟨by first | omega | exact ⟨by omega,by omega⟩ | exact ⟨by omega,by omega,by omega⟩,?_⟩)
    intro r2 h2
    have l2:r2.length=a.length:=by rw [h2,List.length_set]; exact l1
    try rw [e1] at h2
    try dsimp only at h2
    rw [h1,List.set_set] at h2
    have e2:ZbE r2 k=_:=(congrArg (fun r=>ZbE r k) h2).trans (ZaB (t:=ZaN) hk0)
    try rw [e2]
    try simp (disch:=omega) only [ZaR,ZaR,Zag,Zao,Zad,Zam,Zaq,Zas,Zap,Zaz,Zan]
    refine ⟨k + 1,hlt,by clear e1 h1 l1 r1 e2 h2 l2 r2; omega,⟨by clear e1 h1 l1 r1 e2 h2 l2 r2; first | omega | (simp (disch:=omega) only [ZaR,ZaR,Zag,Zao,Zad,Zam,Zaq,Zas,Zap,Zaz,Zan]; omega),by clear e1 h1 l1 r1 e2 h2 l2 r2; first | omega | exact ZbN (by unfold maxLen; omega)⟩,Eq.mpr (ZaV (t:=ZaN)) (h2.trans (ZgK hg ?_))⟩
    exact ZeV
  · have l0:(Zbr a m k).length=a.length:=ZcP a m k
    exact ZeX
def ZrU:Zcd Tryz.prog:=⟨128,[(.q false (.list ZaN)),(.a (.v ZaC))],fun x=>ZfO x.1 x.2.1,fun x=>(Zdm x.1 x.2.1,x.2.1,()),fun x=>.c (.int .i64 (Zan x.1 x.2.1)),fun _=>[],fun x hx=>ZrT x.1 x.2.1 hx,Tryz.call128⟩
abbrev ZaP (a:Zz5) (m:Int):Int:=m + ((cntI a:Nat):Int)
abbrev Zp8 (a:Zz5) (m:Int):Zz5:=mrkI a m
abbrev Zaw (a:List Zay) (m:Int):Int:=m + ((cntL a:Nat):Int)
abbrev Zdn (a:List Zay) (m:Int):List Zay:=markL a m
abbrev Zbs (a:List Zay) (m:Int) (k:Nat):List Zay:=Zs5 a m k
abbrev ZfP (a:List Zay) (m:Int):Prop:=0≤m∧m + cntL a≤4611686018427387904
def ZrV (a:List Zay) (m:Int):Nat→List AV→Mem→Zbn
  | 2,tm,M=>⟨Nat,fun y=>(ZcN (ZcV tm [(1, .c (.int .i64 (m + ((cntL (List.take y a):Nat):Int)))),(5, .c (.int .i64 ((y:Nat):Int)))]) 6 35,Zjs M [(0, .row Zai (Zbs a m y) 0 0 none)]),fun y=>(y≤List.length a),fun y=>(List.length a - y)⟩
  | _,_,_=>⟨Unit,fun _=>([],[]),fun _=>False,fun _=>0⟩
theorem ZrW (a:List Zay) (m:Int) (hpre:ZfP a m):Zc0 Tryz.prog 131 (ZcX 0 [(.q false (.list Zai)),(.a (.v ZaC))] (a,m,())) (Zga 0 [(.q false (.list Zai)),(.a (.v ZaC))] (a,m,())) (ZdF 0 [(.q false (.list Zai)),(.a (.v ZaC))] (Zdn a m,m,()) ++ []) (inpM 0 [(.q false (.list Zai)),(.a (.v ZaC))]) (.c (.int .i64 (Zaw a m))):=by
  refine Zb1 (T:=⟨[Zb0],[],[],[],none,fun _=>[],1,[0],[]⟩) (L:=(ZrV a m)) Tryz.func131 rfl rfl rfl (by kernel_rfl) (fun hwf hwm=>?_)
  refine Eq.mpr (β:=(T2 ((∃ q:Nat,(q≤List.length a)∧((lxs [.c (.row 0 0)] (vI m (m + (cntL (List.take q a):Int))∧lxs [.tp [], .tp [],ci 0] (vI 0 q∧TN 35 (lxs [.tp []] True))))∧pt (leB (.row Zai a 0 0 none) (.row Zai (Zbs a m q) 0 0 none)∧True)))∧∀ y0:Nat,(y0≤List.length a)→(T4 (bif (ltI y0 (List.length (Zbs a m y0))) then (T3 ((ix 4 y0 (List.length (Zbs a m y0)))∧(T2 (∀ r1:List Zay,r1=(List.set (Zbs a m y0) y0 ((m + (cntL (List.take y0 a):Int)),(Zaf (Zbs a m y0) y0).2))→(T6 ((ix 4 y0 (List.length r1))∧(T2 (∀ r2:List Zay,r2=(List.set r1 y0 ((Zaf r1 y0).1,((w64 ((m + (cntL (List.take y0 a):Int)) + 1)),(Zaf r1 y0).2.2)))→(T6 ((ix 4 y0 (List.length r2))∧(T2 (∀ r3:List Zay,r3=(List.set r2 y0 ((Zaf r2 y0).1,((Zaf r2 y0).2.1,((w64 ((w64 ((m + (cntL (List.take y0 a):Int)) + 1)) + 1)),(Zaf r2 y0).2.2.2))))→(T6 ((pt (Zfx (w64 ((w64 ((w64 ((m + (cntL (List.take y0 a):Int)) + 1)) + 1)) + 1))))∧((ix 4 y0 (List.length r3))∧(T2 (∀ r4:List Zay,r4=(List.set r3 y0 ((Zaf r3 y0).1,((Zaf r3 y0).2.1,((Zaf r3 y0).2.2.1,Zb3 (w64 ((w64 ((w64 ((m + (cntL (List.take y0 a):Int)) + 1)) + 1)) + 1))))))→(T6 (∃ y0' : Nat,(y0'≤List.length a)∧(List.length a - y0') < (List.length a - y0)∧((lxs [.c (.row 0 0)] (vI (w64 ((w64 ((w64 ((w64 ((m + (cntL (List.take y0 a):Int)) + 1)) + 1)) + 1)) + 1)) (m + (cntL (List.take y0' a):Int))∧lxs [.tp [], .tp [],ci 0] (vI (w64 ((y0:Int) + 1)) y0'∧TN 35 (lxs [.tp []] True))))∧pt (leB (.row Zai r4 0 0 none) (.row Zai (Zbs a m y0') 0 0 none)∧True))))))))))))))))))))) else (T2 (pt ((((Zbs a m y0)=(Zdn a m))∧True)∧(cI (m + (cntL (List.take y0 a):Int)) (Zaw a m)))))))))) (by kernel_rfl) ?_
  unfold T2 T3 T4 T6
  obtain ⟨hm0,hm1⟩:=hpre
  have hlm:a.length≤maxLen:=hwm.1.1
  unfold maxLen at hlm
  simp only [SIA,eq_self]
  refine ⟨⟨0,Nat.zero_le _,⟨by simp [cntL],rfl⟩,Eq.mpr (ZaV (t:=Zai)) (ZeU a m).symm⟩,fun k hk=>⟨fun hlt=>?_,fun hge=>?_⟩⟩
  · have l0:(Zbs a m k).length=a.length:=ZcP a m k
    have hlt:k < a.length:=by omega
    have hg:a[k]?=some (Zaf a k):=Zau (t:=Zai) hlt
    have hc:cntL (List.take (k + 1) a)=cntL (List.take k a) + (1 + (1 + (1 + (1)))):=Zch hg
    have hcl:cntL (List.take (k + 1) a)≤cntL a:=ZdA a (k + 1)
    have hg0:(Zbs a m k)[k]?=some (Zaf a k):=ZgJ hg
    have hk0:k < (Zbs a m k).length:=by omega
    have e0:Zaf (Zbs a m k) k=Zaf a k:=ZbU (t:=Zai) hg0
    try simp (disch:=omega) only [ZaR,ZaR,Zag,Zao,Zad,Zam,Zaq,Zas,Zap,Zaz,Zan,ZaP,Zaw]
    repeat (refine ⟨by first | omega | exact ⟨by omega,by omega⟩ | exact ⟨by omega,by omega,by omega⟩,?_⟩)
    intro r1 h1
    have l1:r1.length=a.length:=by rw [h1,List.length_set]; exact l0
    try rw [e0] at h1
    try dsimp only at h1
    have e1:Zaf r1 k=_:=(congrArg (fun r=>Zaf r k) h1).trans (ZaB (t:=Zai) hk0)
    try rw [e1]
    try simp (disch:=omega) only [ZaR,ZaR,Zag,Zao,Zad,Zam,Zaq,Zas,Zap,Zaz,Zan,ZaP,Zaw]
    repeat (refine ⟨by first | omega | exact ⟨by omega,by omega⟩ | exact ⟨by omega,by omega,by omega⟩,?_⟩)
    intro r2 h2
    have l2:r2.length=a.length:=by rw [h2,List.length_set]; exact l1
    try rw [e1] at h2
    try dsimp only at h2
    rw [h1,List.set_set] at h2
    have e2:Zaf r2 k=_:=(congrArg (fun r=>Zaf r k) h2).trans (ZaB (t:=Zai) hk0)
    try rw [e2]
    try simp (disch:=omega) only [ZaR,ZaR,Zag,Zao,Zad,Zam,Zaq,Zas,Zap,Zaz,Zan,ZaP,Zaw]
    repeat (refine ⟨by first | omega | exact ⟨by omega,by omega⟩ | exact ⟨by omega,by omega,by omega⟩,?_⟩)
    intro r3 h3
    have l3:r3.length=a.length:=by rw [h3,List.length_set]; exact l2
    try rw [e2] at h3
    try dsimp only at h3
    rw [h2,List.set_set] at h3
    have e3:Zaf r3 k=_:=(congrArg (fun r=>Zaf r k) h3).trans (ZaB (t:=Zai) hk0)
    try rw [e3]
    try simp (disch:=omega) only [ZaR,ZaR,Zag,Zao,Zad,Zam,Zaq,Zas,Zap,Zaz,Zan,ZaP,Zaw]
    repeat (refine ⟨by first | omega | exact ⟨by omega,by omega⟩ | exact ⟨by omega,by omega,by omega⟩,?_⟩)
    intro r4 h4
    have l4:r4.length=a.length:=by rw [h4,List.length_set]; exact l3
    try rw [e3] at h4
    try dsimp only at h4
    rw [h3,List.set_set] at h4
    have e4:Zaf r4 k=_:=(congrArg (fun r=>Zaf r k) h4).trans (ZaB (t:=Zai) hk0)
    try rw [e4]
    try simp (disch:=omega) only [ZaR,ZaR,Zag,Zao,Zad,Zam,Zaq,Zas,Zap,Zaz,Zan,ZaP,Zaw]
    refine ⟨k + 1,hlt,by clear e1 h1 l1 r1 e2 h2 l2 r2 e3 h3 l3 r3 e4 h4 l4 r4; omega,⟨by clear e1 h1 l1 r1 e2 h2 l2 r2 e3 h3 l3 r3 e4 h4 l4 r4; first | omega | (simp (disch:=omega) only [ZaR,ZaR,Zag,Zao,Zad,Zam,Zaq,Zas,Zap,Zaz,Zan,ZaP,Zaw]; omega),by clear e1 h1 l1 r1 e2 h2 l2 r2 e3 h3 l3 r3 e4 h4 l4 r4; first | omega | exact ZbN (by unfold maxLen; omega)⟩,Eq.mpr (ZaV (t:=Zai)) (h4.trans (ZgK hg ?_))⟩
    exact ZeV
  · have l0:(Zbs a m k).length=a.length:=ZcP a m k
    exact ZeX
def ZrX:Zcd Tryz.prog:=⟨131,[(.q false (.list Zai)),(.a (.v ZaC))],fun x=>ZfP x.1 x.2.1,fun x=>(Zdn x.1 x.2.1,x.2.1,()),fun x=>.c (.int .i64 (Zaw x.1 x.2.1)),fun _=>[],fun x hx=>ZrW x.1 x.2.1 hx,Tryz.call131⟩
abbrev ZaZ (a:ZaU) (m:Int):Int:=m + ((cntI a:Nat):Int)
abbrev ZnW (a:ZaU) (m:Int):ZaU:=mrkI a m
abbrev ZaQ (a:Zal) (m:Int):Int:=m + ((cntI a:Nat):Int)
abbrev ZlP (a:Zal) (m:Int):Zal:=mrkI a m
set_option maxRecDepth 100000
set_option maxHeartbeats 4000000
theorem ZtI (x:Zal) (K:Int) (hK:0≤K):mrk x K=(eqI (Int.tmod (K) 3) 0,(K + 1,(K + 1 + 1,(K + 1 + 1 + 1,(markL (x.2.2.2.2.1) (K + 1 + 1 + 1 + 1),((eqI (Int.tmod (K + 1 + 1 + 1 + 1 + ((cntL (x.2.2.2.2.1):Nat):Int)) 3) 0,markL (x.2.2.2.2.2.1.2) (K + 1 + 1 + 1 + 1 + ((cntL (x.2.2.2.2.1):Nat):Int) + 1)),(Zb3 (K + 1 + 1 + 1 + 1 + ((cntL (x.2.2.2.2.1):Nat):Int) + 1 + ((cntL (x.2.2.2.2.2.1.2):Nat):Int)),(Zb3 (K + 1 + 1 + 1 + 1 + ((cntL (x.2.2.2.2.1):Nat):Int) + 1 + ((cntL (x.2.2.2.2.2.1.2):Nat):Int) + 1),((markL (x.2.2.2.2.2.2.2.2.1.1) (K + 1 + 1 + 1 + 1 + ((cntL (x.2.2.2.2.1):Nat):Int) + 1 + ((cntL (x.2.2.2.2.2.1.2):Nat):Int) + 1 + 1),(eqI (Int.tmod (K + 1 + 1 + 1 + 1 + ((cntL (x.2.2.2.2.1):Nat):Int) + 1 + ((cntL (x.2.2.2.2.2.1.2):Nat):Int) + 1 + 1 + ((cntL (x.2.2.2.2.2.2.2.2.1.1):Nat):Int)) 3) 0,eqI (Int.tmod (K + 1 + 1 + 1 + 1 + ((cntL (x.2.2.2.2.1):Nat):Int) + 1 + ((cntL (x.2.2.2.2.2.1.2):Nat):Int) + 1 + 1 + ((cntL (x.2.2.2.2.2.2.2.2.1.1):Nat):Int) + 1) 3) 0)),((Zb3 (K + 1 + 1 + 1 + 1 + ((cntL (x.2.2.2.2.1):Nat):Int) + 1 + ((cntL (x.2.2.2.2.2.1.2):Nat):Int) + 1 + 1 + ((cntL (x.2.2.2.2.2.2.2.2.1.1):Nat):Int) + 1 + 1),eqI (Int.tmod (K + 1 + 1 + 1 + 1 + ((cntL (x.2.2.2.2.1):Nat):Int) + 1 + ((cntL (x.2.2.2.2.2.1.2):Nat):Int) + 1 + 1 + ((cntL (x.2.2.2.2.2.2.2.2.1.1):Nat):Int) + 1 + 1 + 1) 3) 0),((Zb3 (K + 1 + 1 + 1 + 1 + ((cntL (x.2.2.2.2.1):Nat):Int) + 1 + ((cntL (x.2.2.2.2.2.1.2):Nat):Int) + 1 + 1 + ((cntL (x.2.2.2.2.2.2.2.2.1.1):Nat):Int) + 1 + 1 + 1 + 1),Zb3 (K + 1 + 1 + 1 + 1 + ((cntL (x.2.2.2.2.1):Nat):Int) + 1 + ((cntL (x.2.2.2.2.2.1.2):Nat):Int) + 1 + 1 + ((cntL (x.2.2.2.2.2.2.2.2.1.1):Nat):Int) + 1 + 1 + 1 + 1 + 1)),K + 1 + 1 + 1 + 1 + ((cntL (x.2.2.2.2.1):Nat):Int) + 1 + ((cntL (x.2.2.2.2.2.1.2):Nat):Int) + 1 + 1 + ((cntL (x.2.2.2.2.2.2.2.2.1.1):Nat):Int) + 1 + 1 + 1 + 1 + 1 + 1))))))))))):=by
  have f0:(mrk x K).1=eqI (Int.tmod (K) 3) 0:=by first | rfl | (simp only [GXA]; first | done | omega | (congr 1; omega) | (rw [Zaj (by omega),decide_eq_decide]; done) | (rw [Zaj (by omega),decide_eq_decide]; omega))
  have f1:(mrk x K).2.1=K + 1:=by first | rfl | (simp only [GXA]; first | done | omega | (congr 1; omega) | (rw [Zaj (by omega),decide_eq_decide]; done) | (rw [Zaj (by omega),decide_eq_decide]; omega))
  have f2:(mrk x K).2.2.1=K + 1 + 1:=by first | rfl | (simp only [GXA]; first | done | omega | (congr 1; omega) | (rw [Zaj (by omega),decide_eq_decide]; done) | (rw [Zaj (by omega),decide_eq_decide]; omega))
  have f3:(mrk x K).2.2.2.1=K + 1 + 1 + 1:=by first | rfl | (simp only [GXA]; first | done | omega | (congr 1; omega) | (rw [Zaj (by omega),decide_eq_decide]; done) | (rw [Zaj (by omega),decide_eq_decide]; omega))
  have f4:(mrk x K).2.2.2.2.1=markL (x.2.2.2.2.1) (K + 1 + 1 + 1 + 1):=by first | rfl | (simp only [GXA]; first | done | omega | (congr 1; omega) | (rw [Zaj (by omega),decide_eq_decide]; done) | (rw [Zaj (by omega),decide_eq_decide]; omega))
  have f5:(mrk x K).2.2.2.2.2.1.1=eqI (Int.tmod (K + 1 + 1 + 1 + 1 + ((cntL (x.2.2.2.2.1):Nat):Int)) 3) 0:=by first | rfl | (simp only [GXA]; first | done | omega | (congr 1; omega) | (rw [Zaj (by omega),decide_eq_decide]; done) | (rw [Zaj (by omega),decide_eq_decide]; omega))
  have f6:(mrk x K).2.2.2.2.2.1.2=markL (x.2.2.2.2.2.1.2) (K + 1 + 1 + 1 + 1 + ((cntL (x.2.2.2.2.1):Nat):Int) + 1):=by first | rfl | (simp only [GXA]; first | done | omega | (congr 1; omega) | (rw [Zaj (by omega),decide_eq_decide]; done) | (rw [Zaj (by omega),decide_eq_decide]; omega))
  have f7:(mrk x K).2.2.2.2.2.2.1=Zb3 (K + 1 + 1 + 1 + 1 + ((cntL (x.2.2.2.2.1):Nat):Int) + 1 + ((cntL (x.2.2.2.2.2.1.2):Nat):Int)):=by first | rfl | (simp only [GXA]; first | done | omega | (congr 1; omega) | (rw [Zaj (by omega),decide_eq_decide]; done) | (rw [Zaj (by omega),decide_eq_decide]; omega))
  have f8:(mrk x K).2.2.2.2.2.2.2.1=Zb3 (K + 1 + 1 + 1 + 1 + ((cntL (x.2.2.2.2.1):Nat):Int) + 1 + ((cntL (x.2.2.2.2.2.1.2):Nat):Int) + 1):=by first | rfl | (simp only [GXA]; first | done | omega | (congr 1; omega) | (rw [Zaj (by omega),decide_eq_decide]; done) | (rw [Zaj (by omega),decide_eq_decide]; omega))
  have f9:(mrk x K).2.2.2.2.2.2.2.2.1.1=markL (x.2.2.2.2.2.2.2.2.1.1) (K + 1 + 1 + 1 + 1 + ((cntL (x.2.2.2.2.1):Nat):Int) + 1 + ((cntL (x.2.2.2.2.2.1.2):Nat):Int) + 1 + 1):=by first | rfl | (simp only [GXA]; first | done | omega | (congr 1; omega) | (rw [Zaj (by omega),decide_eq_decide]; done) | (rw [Zaj (by omega),decide_eq_decide]; omega))
  have f10:(mrk x K).2.2.2.2.2.2.2.2.1.2.1=eqI (Int.tmod (K + 1 + 1 + 1 + 1 + ((cntL (x.2.2.2.2.1):Nat):Int) + 1 + ((cntL (x.2.2.2.2.2.1.2):Nat):Int) + 1 + 1 + ((cntL (x.2.2.2.2.2.2.2.2.1.1):Nat):Int)) 3) 0:=by first | rfl | (simp only [GXA]; first | done | omega | (congr 1; omega) | (rw [Zaj (by omega),decide_eq_decide]; done) | (rw [Zaj (by omega),decide_eq_decide]; omega))
  have f11:(mrk x K).2.2.2.2.2.2.2.2.1.2.2=eqI (Int.tmod (K + 1 + 1 + 1 + 1 + ((cntL (x.2.2.2.2.1):Nat):Int) + 1 + ((cntL (x.2.2.2.2.2.1.2):Nat):Int) + 1 + 1 + ((cntL (x.2.2.2.2.2.2.2.2.1.1):Nat):Int) + 1) 3) 0:=by first | rfl | (simp only [GXA]; first | done | omega | (congr 1; omega) | (rw [Zaj (by omega),decide_eq_decide]; done) | (rw [Zaj (by omega),decide_eq_decide]; omega))
  have f12:(mrk x K).2.2.2.2.2.2.2.2.2.1.1=Zb3 (K + 1 + 1 + 1 + 1 + ((cntL (x.2.2.2.2.1):Nat):Int) + 1 + ((cntL (x.2.2.2.2.2.1.2):Nat):Int) + 1 + 1 + ((cntL (x.2.2.2.2.2.2.2.2.1.1):Nat):Int) + 1 + 1):=by first | rfl | (simp only [GXA]; first | done | omega | (congr 1; omega) | (rw [Zaj (by omega),decide_eq_decide]; done) | (rw [Zaj (by omega),decide_eq_decide]; omega))
  have f13:(mrk x K).2.2.2.2.2.2.2.2.2.1.2=eqI (Int.tmod (K + 1 + 1 + 1 + 1 + ((cntL (x.2.2.2.2.1):Nat):Int) + 1 + ((cntL (x.2.2.2.2.2.1.2):Nat):Int) + 1 + 1 + ((cntL (x.2.2.2.2.2.2.2.2.1.1):Nat):Int) + 1 + 1 + 1) 3) 0:=by first | rfl | (simp only [GXA]; first | done | omega | (congr 1; omega) | (rw [Zaj (by omega),decide_eq_decide]; done) | (rw [Zaj (by omega),decide_eq_decide]; omega))
  have f14:(mrk x K).2.2.2.2.2.2.2.2.2.2.1.1=Zb3 (K + 1 + 1 + 1 + 1 + ((cntL (x.2.2.2.2.1):Nat):Int) + 1 + ((cntL (x.2.2.2.2.2.1.2):Nat):Int) + 1 + 1 + ((cntL (x.2.2.2.2.2.2.2.2.1.1):Nat):Int) + 1 + 1 + 1 + 1):=by first | rfl | (simp only [GXA]; first | done | omega | (congr 1; omega) | (rw [Zaj (by omega),decide_eq_decide]; done) | (rw [Zaj (by omega),decide_eq_decide]; omega))
  have f15:(mrk x K).2.2.2.2.2.2.2.2.2.2.1.2=Zb3 (K + 1 + 1 + 1 + 1 + ((cntL (x.2.2.2.2.1):Nat):Int) + 1 + ((cntL (x.2.2.2.2.2.1.2):Nat):Int) + 1 + 1 + ((cntL (x.2.2.2.2.2.2.2.2.1.1):Nat):Int) + 1 + 1 + 1 + 1 + 1):=by first | rfl | (simp only [GXA]; first | done | omega | (congr 1; omega) | (rw [Zaj (by omega),decide_eq_decide]; done) | (rw [Zaj (by omega),decide_eq_decide]; omega))
  have f16:(mrk x K).2.2.2.2.2.2.2.2.2.2.2=K + 1 + 1 + 1 + 1 + ((cntL (x.2.2.2.2.1):Nat):Int) + 1 + ((cntL (x.2.2.2.2.2.1.2):Nat):Int) + 1 + 1 + ((cntL (x.2.2.2.2.2.2.2.2.1.1):Nat):Int) + 1 + 1 + 1 + 1 + 1 + 1:=by first | rfl | (simp only [GXA]; first | done | omega | (congr 1; omega) | (rw [Zaj (by omega),decide_eq_decide]; done) | (rw [Zaj (by omega),decide_eq_decide]; omega))
  exact (Prod.ext f0 (Prod.ext f1 (Prod.ext f2 (Prod.ext f3 (Prod.ext f4 (Prod.ext (Prod.ext f5 f6) (Prod.ext f7 (Prod.ext f8 (Prod.ext (Prod.ext f9 (Prod.ext f10 f11)) (Prod.ext (Prod.ext f12 f13) (Prod.ext (Prod.ext f14 f15) f16)))))))))))
abbrev ZaG (a:List Zal) (m:Int):Int:=m + ((cntL a:Nat):Int)
abbrev ZcA (a:List Zal) (m:Int):List Zal:=markL a m
abbrev Za4 (a:List Zal) (m:Int) (k:Nat):List Zal:=Zs5 a m k
abbrev Zd2 (a:List Zal) (m:Int):Prop:=0≤m∧m + cntL a≤4611686018427387904
def ZmZ (a:List Zal) (m:Int):Nat→List AV→Mem→Zbn
  | 2,tm,M=>⟨Nat,fun y=>(ZcN (ZcV tm [(1, .c (.int .i64 (m + ((cntL (List.take y a):Nat):Int)))),(5, .c (.int .i64 ((y:Nat):Int)))]) 6 150,Zjs M [(0, .row Zae (Za4 a m y) 0 0 none)]),fun y=>(y≤List.length a),fun y=>(List.length a - y)⟩
  | _,_,_=>⟨Unit,fun _=>([],[]),fun _=>False,fun _=>0⟩
theorem Zm0 (a:List Zal) (m:Int) (hpre:Zd2 a m):Zc0 Tryz.prog 52 (ZcX 0 [(.q false (.list Zae)),(.a (.v ZaC))] (a,m,())) (Zga 0 [(.q false (.list Zae)),(.a (.v ZaC))] (a,m,())) (ZdF 0 [(.q false (.list Zae)),(.a (.v ZaC))] (ZcA a m,m,()) ++ []) (inpM 0 [(.q false (.list Zae)),(.a (.v ZaC))]) (.c (.int .i64 (ZaG a m))):=by
  refine Zb1 (T:=⟨[Zb0],[],[],[ZrU,Zp7,ZrX],none,fun _=>[],1,[0],[]⟩) (L:=(ZmZ a m)) Tryz.func52 rfl rfl rfl (by kernel_rfl) (fun hwf hwm=>?_)
  refine Eq.mpr (β:=(T2 ((∃ q:Nat,(q≤List.length a)∧((lxs [.c (.row 0 0)] (vI m (m + (cntL (List.take q a):Int))∧lxs [.tp [], .tp [],ci 0] (vI 0 q∧TN 150 (lxs [.tp []] True))))∧pt (leB (.row Zae a 0 0 none) (.row Zae (Za4 a m q) 0 0 none)∧True)))∧∀ y0:Nat,(y0≤List.length a)→(T4 (bif (ltI y0 (List.length (Za4 a m y0))) then (T3 ((3:Int) ≠ 0∧(True∧((ix 17 y0 (List.length (Za4 a m y0)))∧(T2 (∀ r1:List Zal,r1=(List.set (Za4 a m y0) y0 ((eqI (Int.tmod (m + (cntL (List.take y0 a):Int)) 3) 0),(Zaa (Za4 a m y0) y0).2))→(T6 ((ix 17 y0 (List.length r1))∧(T2 (∀ r2:List Zal,r2=(List.set r1 y0 ((Zaa r1 y0).1,((w64 ((m + (cntL (List.take y0 a):Int)) + 1)),(Zaa r1 y0).2.2)))→(T6 ((ix 17 y0 (List.length r2))∧(T2 (∀ r3:List Zal,r3=(List.set r2 y0 ((Zaa r2 y0).1,((Zaa r2 y0).2.1,((w64 ((w64 ((m + (cntL (List.take y0 a):Int)) + 1)) + 1)),(Zaa r2 y0).2.2.2))))→(T6 ((ix 17 y0 (List.length r3))∧(T2 (∀ r4:List Zal,r4=(List.set r3 y0 ((Zaa r3 y0).1,((Zaa r3 y0).2.1,((Zaa r3 y0).2.2.1,((w64 ((w64 ((w64 ((m + (cntL (List.take y0 a):Int)) + 1)) + 1)) + 1)),(Zaa r3 y0).2.2.2.2)))))→(T5 ((ix 17 y0 (List.length r4))∧(T4 ((pt (ZfO (Zaa r4 y0).2.2.2.2.1 (w64 ((w64 ((w64 ((w64 ((m + (cntL (List.take y0 a):Int)) + 1)) + 1)) + 1)) + 1))∧(((Zaa r4 y0).2.2.2.2.1=(Zaa r4 y0).2.2.2.2.1)∧True)))∧∀ r5:List Zal,r5=(List.set r4 y0 ((Zaa r4 y0).1,((Zaa r4 y0).2.1,((Zaa r4 y0).2.2.1,((Zaa r4 y0).2.2.2.1,(Zdm (Zaa r4 y0).2.2.2.2.1 (w64 ((w64 ((w64 ((w64 ((m + (cntL (List.take y0 a):Int)) + 1)) + 1)) + 1)) + 1)),(Zaa r4 y0).2.2.2.2.2))))))→(T4 ((3:Int) ≠ 0∧(True∧((ix 17 y0 (List.length r5))∧(T3 (∀ r6:List Zal,r6=(List.set r5 y0 ((Zaa r5 y0).1,((Zaa r5 y0).2.1,((Zaa r5 y0).2.2.1,((Zaa r5 y0).2.2.2.1,((Zaa r5 y0).2.2.2.2.1,(((eqI (Int.tmod (Zan (Zaa r4 y0).2.2.2.2.1 (w64 ((w64 ((w64 ((w64 ((m + (cntL (List.take y0 a):Int)) + 1)) + 1)) + 1)) + 1))) 3) 0),(Zaa r5 y0).2.2.2.2.2.1.2),(Zaa r5 y0).2.2.2.2.2.2)))))))→(T5 ((ix 17 y0 (List.length r6))∧(T4 ((pt (Ze6 (Zaa r6 y0).2.2.2.2.2.1.2 (w64 (Zan (Zaa r4 y0).2.2.2.2.1 (w64 ((w64 ((w64 ((w64 ((m + (cntL (List.take y0 a):Int)) + 1)) + 1)) + 1)) + 1)) + 1))∧(((Zaa r6 y0).2.2.2.2.2.1.2=(Zaa r6 y0).2.2.2.2.2.1.2)∧True)))∧∀ r7:List Zal,r7=(List.set r6 y0 ((Zaa r6 y0).1,((Zaa r6 y0).2.1,((Zaa r6 y0).2.2.1,((Zaa r6 y0).2.2.2.1,((Zaa r6 y0).2.2.2.2.1,(((Zaa r6 y0).2.2.2.2.2.1.1,Zcx (Zaa r6 y0).2.2.2.2.2.1.2 (w64 (Zan (Zaa r4 y0).2.2.2.2.1 (w64 ((w64 ((w64 ((w64 ((m + (cntL (List.take y0 a):Int)) + 1)) + 1)) + 1)) + 1)) + 1))),(Zaa r6 y0).2.2.2.2.2.2)))))))→(T4 ((pt (Zfx (Zad (Zaa r6 y0).2.2.2.2.2.1.2 (w64 (Zan (Zaa r4 y0).2.2.2.2.1 (w64 ((w64 ((w64 ((w64 ((m + (cntL (List.take y0 a):Int)) + 1)) + 1)) + 1)) + 1)) + 1)))))∧((ix 17 y0 (List.length r7))∧(T2 (∀ r8:List Zal,r8=(List.set r7 y0 ((Zaa r7 y0).1,((Zaa r7 y0).2.1,((Zaa r7 y0).2.2.1,((Zaa r7 y0).2.2.2.1,((Zaa r7 y0).2.2.2.2.1,((Zaa r7 y0).2.2.2.2.2.1,(Zb3 (Zad (Zaa r6 y0).2.2.2.2.2.1.2 (w64 (Zan (Zaa r4 y0).2.2.2.2.1 (w64 ((w64 ((w64 ((w64 ((m + (cntL (List.take y0 a):Int)) + 1)) + 1)) + 1)) + 1)) + 1))),(Zaa r7 y0).2.2.2.2.2.2.2))))))))→(T6 ((pt (Zfx (w64 (Zad (Zaa r6 y0).2.2.2.2.2.1.2 (w64 (Zan (Zaa r4 y0).2.2.2.2.1 (w64 ((w64 ((w64 ((w64 ((m + (cntL (List.take y0 a):Int)) + 1)) + 1)) + 1)) + 1)) + 1)) + 1))))∧((ix 17 y0 (List.length r8))∧(T2 (∀ r9:List Zal,r9=(List.set r8 y0 ((Zaa r8 y0).1,((Zaa r8 y0).2.1,((Zaa r8 y0).2.2.1,((Zaa r8 y0).2.2.2.1,((Zaa r8 y0).2.2.2.2.1,((Zaa r8 y0).2.2.2.2.2.1,((Zaa r8 y0).2.2.2.2.2.2.1,(Zb3 (w64 (Zad (Zaa r6 y0).2.2.2.2.2.1.2 (w64 (Zan (Zaa r4 y0).2.2.2.2.1 (w64 ((w64 ((w64 ((w64 ((m + (cntL (List.take y0 a):Int)) + 1)) + 1)) + 1)) + 1)) + 1)) + 1)),(Zaa r8 y0).2.2.2.2.2.2.2.2)))))))))→(T5 ((ix 17 y0 (List.length r9))∧(T4 ((pt (ZfP (Zaa r9 y0).2.2.2.2.2.2.2.2.1.1 (w64 ((w64 (Zad (Zaa r6 y0).2.2.2.2.2.1.2 (w64 (Zan (Zaa r4 y0).2.2.2.2.1 (w64 ((w64 ((w64 ((w64 ((m + (cntL (List.take y0 a):Int)) + 1)) + 1)) + 1)) + 1)) + 1)) + 1)) + 1))∧(((Zaa r9 y0).2.2.2.2.2.2.2.2.1.1=(Zaa r9 y0).2.2.2.2.2.2.2.2.1.1)∧True)))∧∀ r10:List Zal,r10=(List.set r9 y0 ((Zaa r9 y0).1,((Zaa r9 y0).2.1,((Zaa r9 y0).2.2.1,((Zaa r9 y0).2.2.2.1,((Zaa r9 y0).2.2.2.2.1,((Zaa r9 y0).2.2.2.2.2.1,((Zaa r9 y0).2.2.2.2.2.2.1,((Zaa r9 y0).2.2.2.2.2.2.2.1,((Zdn (Zaa r9 y0).2.2.2.2.2.2.2.2.1.1 (w64 ((w64 (Zad (Zaa r6 y0).2.2.2.2.2.1.2 (w64 (Zan (Zaa r4 y0).2.2.2.2.1 (w64 ((w64 ((w64 ((w64 ((m + (cntL (List.take y0 a):Int)) + 1)) + 1)) + 1)) + 1)) + 1)) + 1)) + 1)),(Zaa r9 y0).2.2.2.2.2.2.2.2.1.2),(Zaa r9 y0).2.2.2.2.2.2.2.2.2))))))))))→(T4 ((3:Int) ≠ 0∧(True∧((ix 17 y0 (List.length r10))∧(T3 (∀ r11:List Zal,r11=(List.set r10 y0 ((Zaa r10 y0).1,((Zaa r10 y0).2.1,((Zaa r10 y0).2.2.1,((Zaa r10 y0).2.2.2.1,((Zaa r10 y0).2.2.2.2.1,((Zaa r10 y0).2.2.2.2.2.1,((Zaa r10 y0).2.2.2.2.2.2.1,((Zaa r10 y0).2.2.2.2.2.2.2.1,(((Zaa r10 y0).2.2.2.2.2.2.2.2.1.1,((eqI (Int.tmod (Zaw (Zaa r9 y0).2.2.2.2.2.2.2.2.1.1 (w64 ((w64 (Zad (Zaa r6 y0).2.2.2.2.2.1.2 (w64 (Zan (Zaa r4 y0).2.2.2.2.1 (w64 ((w64 ((w64 ((w64 ((m + (cntL (List.take y0 a):Int)) + 1)) + 1)) + 1)) + 1)) + 1)) + 1)) + 1))) 3) 0),(Zaa r10 y0).2.2.2.2.2.2.2.2.1.2.2)),(Zaa r10 y0).2.2.2.2.2.2.2.2.2))))))))))→(T6 ((3:Int) ≠ 0∧(True∧((ix 17 y0 (List.length r11))∧(T3 (∀ r12:List Zal,r12=(List.set r11 y0 ((Zaa r11 y0).1,((Zaa r11 y0).2.1,((Zaa r11 y0).2.2.1,((Zaa r11 y0).2.2.2.1,((Zaa r11 y0).2.2.2.2.1,((Zaa r11 y0).2.2.2.2.2.1,((Zaa r11 y0).2.2.2.2.2.2.1,((Zaa r11 y0).2.2.2.2.2.2.2.1,(((Zaa r11 y0).2.2.2.2.2.2.2.2.1.1,((Zaa r11 y0).2.2.2.2.2.2.2.2.1.2.1,(eqI (Int.tmod (w64 (Zaw (Zaa r9 y0).2.2.2.2.2.2.2.2.1.1 (w64 ((w64 (Zad (Zaa r6 y0).2.2.2.2.2.1.2 (w64 (Zan (Zaa r4 y0).2.2.2.2.1 (w64 ((w64 ((w64 ((w64 ((m + (cntL (List.take y0 a):Int)) + 1)) + 1)) + 1)) + 1)) + 1)) + 1)) + 1)) + 1)) 3) 0))),(Zaa r11 y0).2.2.2.2.2.2.2.2.2))))))))))→(T6 ((pt (Zfx (w64 ((w64 (Zaw (Zaa r9 y0).2.2.2.2.2.2.2.2.1.1 (w64 ((w64 (Zad (Zaa r6 y0).2.2.2.2.2.1.2 (w64 (Zan (Zaa r4 y0).2.2.2.2.1 (w64 ((w64 ((w64 ((w64 ((m + (cntL (List.take y0 a):Int)) + 1)) + 1)) + 1)) + 1)) + 1)) + 1)) + 1)) + 1)) + 1))))∧((ix 17 y0 (List.length r12))∧(T3 (∀ r13:List Zal,r13=(List.set r12 y0 ((Zaa r12 y0).1,((Zaa r12 y0).2.1,((Zaa r12 y0).2.2.1,((Zaa r12 y0).2.2.2.1,((Zaa r12 y0).2.2.2.2.1,((Zaa r12 y0).2.2.2.2.2.1,((Zaa r12 y0).2.2.2.2.2.2.1,((Zaa r12 y0).2.2.2.2.2.2.2.1,((Zaa r12 y0).2.2.2.2.2.2.2.2.1,((Zb3 (w64 ((w64 (Zaw (Zaa r9 y0).2.2.2.2.2.2.2.2.1.1 (w64 ((w64 (Zad (Zaa r6 y0).2.2.2.2.2.1.2 (w64 (Zan (Zaa r4 y0).2.2.2.2.1 (w64 ((w64 ((w64 ((w64 ((m + (cntL (List.take y0 a):Int)) + 1)) + 1)) + 1)) + 1)) + 1)) + 1)) + 1)) + 1)) + 1)),(Zaa r12 y0).2.2.2.2.2.2.2.2.2.1.2),(Zaa r12 y0).2.2.2.2.2.2.2.2.2.2)))))))))))→(T6 ((3:Int) ≠ 0∧(True∧((ix 17 y0 (List.length r13))∧(T3 (∀ r14:List Zal,r14=(List.set r13 y0 ((Zaa r13 y0).1,((Zaa r13 y0).2.1,((Zaa r13 y0).2.2.1,((Zaa r13 y0).2.2.2.1,((Zaa r13 y0).2.2.2.2.1,((Zaa r13 y0).2.2.2.2.2.1,((Zaa r13 y0).2.2.2.2.2.2.1,((Zaa r13 y0).2.2.2.2.2.2.2.1,((Zaa r13 y0).2.2.2.2.2.2.2.2.1,(((Zaa r13 y0).2.2.2.2.2.2.2.2.2.1.1,(eqI (Int.tmod (w64 ((w64 ((w64 (Zaw (Zaa r9 y0).2.2.2.2.2.2.2.2.1.1 (w64 ((w64 (Zad (Zaa r6 y0).2.2.2.2.2.1.2 (w64 (Zan (Zaa r4 y0).2.2.2.2.1 (w64 ((w64 ((w64 ((w64 ((m + (cntL (List.take y0 a):Int)) + 1)) + 1)) + 1)) + 1)) + 1)) + 1)) + 1)) + 1)) + 1)) + 1)) 3) 0)),(Zaa r13 y0).2.2.2.2.2.2.2.2.2.2)))))))))))→(T6 ((pt (Zfx (w64 ((w64 ((w64 ((w64 (Zaw (Zaa r9 y0).2.2.2.2.2.2.2.2.1.1 (w64 ((w64 (Zad (Zaa r6 y0).2.2.2.2.2.1.2 (w64 (Zan (Zaa r4 y0).2.2.2.2.1 (w64 ((w64 ((w64 ((w64 ((m + (cntL (List.take y0 a):Int)) + 1)) + 1)) + 1)) + 1)) + 1)) + 1)) + 1)) + 1)) + 1)) + 1)) + 1))))∧((ix 17 y0 (List.length r14))∧(T3 (∀ r15:List Zal,r15=(List.set r14 y0 ((Zaa r14 y0).1,((Zaa r14 y0).2.1,((Zaa r14 y0).2.2.1,((Zaa r14 y0).2.2.2.1,((Zaa r14 y0).2.2.2.2.1,((Zaa r14 y0).2.2.2.2.2.1,((Zaa r14 y0).2.2.2.2.2.2.1,((Zaa r14 y0).2.2.2.2.2.2.2.1,((Zaa r14 y0).2.2.2.2.2.2.2.2.1,((Zaa r14 y0).2.2.2.2.2.2.2.2.2.1,((Zb3 (w64 ((w64 ((w64 ((w64 (Zaw (Zaa r9 y0).2.2.2.2.2.2.2.2.1.1 (w64 ((w64 (Zad (Zaa r6 y0).2.2.2.2.2.1.2 (w64 (Zan (Zaa r4 y0).2.2.2.2.1 (w64 ((w64 ((w64 ((w64 ((m + (cntL (List.take y0 a):Int)) + 1)) + 1)) + 1)) + 1)) + 1)) + 1)) + 1)) + 1)) + 1)) + 1)) + 1)),(Zaa r14 y0).2.2.2.2.2.2.2.2.2.2.1.2),(Zaa r14 y0).2.2.2.2.2.2.2.2.2.2.2))))))))))))→(T6 ((pt (Zfx (w64 ((w64 ((w64 ((w64 ((w64 (Zaw (Zaa r9 y0).2.2.2.2.2.2.2.2.1.1 (w64 ((w64 (Zad (Zaa r6 y0).2.2.2.2.2.1.2 (w64 (Zan (Zaa r4 y0).2.2.2.2.1 (w64 ((w64 ((w64 ((w64 ((m + (cntL (List.take y0 a):Int)) + 1)) + 1)) + 1)) + 1)) + 1)) + 1)) + 1)) + 1)) + 1)) + 1)) + 1)) + 1))))∧((ix 17 y0 (List.length r15))∧(T3 (∀ r16:List Zal,r16=(List.set r15 y0 ((Zaa r15 y0).1,((Zaa r15 y0).2.1,((Zaa r15 y0).2.2.1,((Zaa r15 y0).2.2.2.1,((Zaa r15 y0).2.2.2.2.1,((Zaa r15 y0).2.2.2.2.2.1,((Zaa r15 y0).2.2.2.2.2.2.1,((Zaa r15 y0).2.2.2.2.2.2.2.1,((Zaa r15 y0).2.2.2.2.2.2.2.2.1,((Zaa r15 y0).2.2.2.2.2.2.2.2.2.1,(((Zaa r15 y0).2.2.2.2.2.2.2.2.2.2.1.1,Zb3 (w64 ((w64 ((w64 ((w64 ((w64 (Zaw (Zaa r9 y0).2.2.2.2.2.2.2.2.1.1 (w64 ((w64 (Zad (Zaa r6 y0).2.2.2.2.2.1.2 (w64 (Zan (Zaa r4 y0).2.2.2.2.1 (w64 ((w64 ((w64 ((w64 ((m + (cntL (List.take y0 a):Int)) + 1)) + 1)) + 1)) + 1)) + 1)) + 1)) + 1)) + 1)) + 1)) + 1)) + 1)) + 1))),(Zaa r15 y0).2.2.2.2.2.2.2.2.2.2.2))))))))))))→(T6 ((ix 17 y0 (List.length r16))∧(T2 (∀ r17:List Zal,r17=(List.set r16 y0 ((Zaa r16 y0).1,((Zaa r16 y0).2.1,((Zaa r16 y0).2.2.1,((Zaa r16 y0).2.2.2.1,((Zaa r16 y0).2.2.2.2.1,((Zaa r16 y0).2.2.2.2.2.1,((Zaa r16 y0).2.2.2.2.2.2.1,((Zaa r16 y0).2.2.2.2.2.2.2.1,((Zaa r16 y0).2.2.2.2.2.2.2.2.1,((Zaa r16 y0).2.2.2.2.2.2.2.2.2.1,((Zaa r16 y0).2.2.2.2.2.2.2.2.2.2.1,(w64 ((w64 ((w64 ((w64 ((w64 ((w64 (Zaw (Zaa r9 y0).2.2.2.2.2.2.2.2.1.1 (w64 ((w64 (Zad (Zaa r6 y0).2.2.2.2.2.1.2 (w64 (Zan (Zaa r4 y0).2.2.2.2.1 (w64 ((w64 ((w64 ((w64 ((m + (cntL (List.take y0 a):Int)) + 1)) + 1)) + 1)) + 1)) + 1)) + 1)) + 1)) + 1)) + 1)) + 1)) + 1)) + 1)) + 1))))))))))))))→(T6 (∃ y0' : Nat,(y0'≤List.length a)∧(List.length a - y0') < (List.length a - y0)∧((lxs [.c (.row 0 0)] (vI (w64 ((w64 ((w64 ((w64 ((w64 ((w64 ((w64 (Zaw (Zaa r9 y0).2.2.2.2.2.2.2.2.1.1 (w64 ((w64 (Zad (Zaa r6 y0).2.2.2.2.2.1.2 (w64 (Zan (Zaa r4 y0).2.2.2.2.1 (w64 ((w64 ((w64 ((w64 ((m + (cntL (List.take y0 a):Int)) + 1)) + 1)) + 1)) + 1)) + 1)) + 1)) + 1)) + 1)) + 1)) + 1)) + 1)) + 1)) + 1)) + 1)) (m + (cntL (List.take y0' a):Int))∧lxs [.tp [], .tp [],ci 0] (vI (w64 ((y0:Int) + 1)) y0'∧TN 150 (lxs [.tp []] True))))∧pt (leB (.row Zae r17 0 0 none) (.row Zae (Za4 a m y0') 0 0 none)∧True))))))))))))))))))))))))))))))))))))))))))))))))))))))))))))))))))))))))))))))))))))))) else (T2 (pt ((((Za4 a m y0)=(ZcA a m))∧True)∧(cI (m + (cntL (List.take y0 a):Int)) (ZaG a m)))))))))) (by kernel_rfl) ?_
  unfold T2 T3 T4 T5 T6
  obtain ⟨hm0,hm1⟩:=hpre
  have hlm:a.length≤maxLen:=hwm.1.1
  unfold maxLen at hlm
  simp only [SIA,eq_self]
  refine ⟨⟨0,Nat.zero_le _,⟨by simp [cntL],rfl⟩,Eq.mpr (ZaV (t:=Zae)) (ZeU a m).symm⟩,fun k hk=>⟨fun hlt=>?_,fun hge=>?_⟩⟩
  · have l0:(Za4 a m k).length=a.length:=ZcP a m k
    have hlt:k < a.length:=by omega
    have hg:a[k]?=some (Zaa a k):=Zau (t:=Zae) hlt
    have hc:cntL (List.take (k + 1) a)=cntL (List.take k a) + (1 + (1 + (1 + (1 + (cntL (Zaa a k).2.2.2.2.1 + (1 + (cntL (Zaa a k).2.2.2.2.2.1.2) + (1 + (1 + (cntL (Zaa a k).2.2.2.2.2.2.2.2.1.1 + (1 + (1)) + (1 + (1) + (1 + (1) + (1)))))))))))):=Zch hg
    have hcl:cntL (List.take (k + 1) a)≤cntL a:=ZdA a (k + 1)
    have hg0:(Za4 a m k)[k]?=some (Zaa a k):=ZgJ hg
    have hk0:k < (Za4 a m k).length:=by omega
    have e0:Zaa (Za4 a m k) k=Zaa a k:=ZbU (t:=Zae) hg0
    try simp (disch:=omega) only [ZaR,ZaR,Zag,Zao,Zad,Zam,Zaq,Zas,Zap,Zaz,Zan,ZaP,Zaw,ZaZ,ZaQ,ZaG]
    repeat (refine ⟨by first | omega | exact ⟨by omega,by omega⟩ | exact ⟨by omega,by omega,by omega⟩,?_⟩)
    intro r1 h1
    have l1:r1.length=a.length:=by rw [h1,List.length_set]; exact l0
    try rw [e0] at h1
    try dsimp only at h1
    have e1:Zaa r1 k=_:=(congrArg (fun r=>Zaa r k) h1).trans (ZaB (t:=Zae) hk0)
    try rw [e1]
    try simp (disch:=omega) only [ZaR,ZaR,Zag,Zao,Zad,Zam,Zaq,Zas,Zap,Zaz,Zan,ZaP,Zaw,ZaZ,ZaQ,ZaG]
    repeat (refine ⟨by first | omega | exact ⟨by omega,by omega⟩ | exact ⟨by omega,by omega,by omega⟩,?_⟩)
    intro r2 h2
    have l2:r2.length=a.length:=by rw [h2,List.length_set]; exact l1
    try rw [e1] at h2
    try dsimp only at h2
    rw [h1,List.set_set] at h2
    have e2:Zaa r2 k=_:=(congrArg (fun r=>Zaa r k) h2).trans (ZaB (t:=Zae) hk0)
    try rw [e2]
    try simp (disch:=omega) only [ZaR,ZaR,Zag,Zao,Zad,Zam,Zaq,Zas,Zap,Zaz,Zan,ZaP,Zaw,ZaZ,ZaQ,ZaG]
    repeat (refine ⟨by first | omega | exact ⟨by omega,by omega⟩ | exact ⟨by omega,by omega,by omega⟩,?_⟩)
    intro r3 h3
    have l3:r3.length=a.length:=by rw [h3,List.length_set]; exact l2
    try rw [e2] at h3
    try dsimp only at h3
    rw [h2,List.set_set] at h3
    have e3:Zaa r3 k=_:=(congrArg (fun r=>Zaa r k) h3).trans (ZaB (t:=Zae) hk0)
    try rw [e3]
    try simp (disch:=omega) only [ZaR,ZaR,Zag,Zao,Zad,Zam,Zaq,Zas,Zap,Zaz,Zan,ZaP,Zaw,ZaZ,ZaQ,ZaG]
    repeat (refine ⟨by first | omega | exact ⟨by omega,by omega⟩ | exact ⟨by omega,by omega,by omega⟩,?_⟩)
    intro r4 h4
    have l4:r4.length=a.length:=by rw [h4,List.length_set]; exact l3
    try rw [e3] at h4
    try dsimp only at h4
    rw [h3,List.set_set] at h4
    have e4:Zaa r4 k=_:=(congrArg (fun r=>Zaa r k) h4).trans (ZaB (t:=Zae) hk0)
    try rw [e4]
    try simp (disch:=omega) only [ZaR,ZaR,Zag,Zao,Zad,Zam,Zaq,Zas,Zap,Zaz,Zan,ZaP,Zaw,ZaZ,ZaQ,ZaG]
    repeat (refine ⟨by first | omega | exact ⟨by omega,by omega⟩ | exact ⟨by omega,by omega,by omega⟩,?_⟩)
    intro r5 h5
    have l5:r5.length=a.length:=by rw [h5,List.length_set]; exact l4
    try rw [e4] at h5
    try dsimp only at h5
    rw [h4,List.set_set] at h5
    have e5:Zaa r5 k=_:=(congrArg (fun r=>Zaa r k) h5).trans (ZaB (t:=Zae) hk0)
    try rw [e5]
    try simp (disch:=omega) only [ZaR,ZaR,Zag,Zao,Zad,Zam,Zaq,Zas,Zap,Zaz,Zan,ZaP,Zaw,ZaZ,ZaQ,ZaG]
    repeat (refine ⟨by first | omega | exact ⟨by omega,by omega⟩ | exact ⟨by omega,by omega,by omega⟩,?_⟩)
    intro r6 h6
    have l6:r6.length=a.length:=by rw [h6,List.length_set]; exact l5
    try rw [e5] at h6
    try dsimp only at h6
    rw [h5,List.set_set] at h6
    have e6:Zaa r6 k=_:=(congrArg (fun r=>Zaa r k) h6).trans (ZaB (t:=Zae) hk0)
    try rw [e6]
    try simp (disch:=omega) only [ZaR,ZaR,Zag,Zao,Zad,Zam,Zaq,Zas,Zap,Zaz,Zan,ZaP,Zaw,ZaZ,ZaQ,ZaG]
    repeat (refine ⟨by first | omega | exact ⟨by omega,by omega⟩ | exact ⟨by omega,by omega,by omega⟩,?_⟩)
    intro r7 h7
    have l7:r7.length=a.length:=by rw [h7,List.length_set]; exact l6
    try rw [e6] at h7
    try dsimp only at h7
    rw [h6,List.set_set] at h7
    have e7:Zaa r7 k=_:=(congrArg (fun r=>Zaa r k) h7).trans (ZaB (t:=Zae) hk0)
    try rw [e7]
    try simp (disch:=omega) only [ZaR,ZaR,Zag,Zao,Zad,Zam,Zaq,Zas,Zap,Zaz,Zan,ZaP,Zaw,ZaZ,ZaQ,ZaG]
    repeat (refine ⟨by first | omega | exact ⟨by omega,by omega⟩ | exact ⟨by omega,by omega,by omega⟩,?_⟩)
    intro r8 h8
    have l8:r8.length=a.length:=by rw [h8,List.length_set]; exact l7
    try rw [e7] at h8
    try dsimp only at h8
    rw [h7,List.set_set] at h8
    have e8:Zaa r8 k=_:=(congrArg (fun r=>Zaa r k) h8).trans (ZaB (t:=Zae) hk0)
    try rw [e8]
    try simp (disch:=omega) only [ZaR,ZaR,Zag,Zao,Zad,Zam,Zaq,Zas,Zap,Zaz,Zan,ZaP,Zaw,ZaZ,ZaQ,ZaG]
    repeat (refine ⟨by first | omega | exact ⟨by omega,by omega⟩ | exact ⟨by omega,by omega,by omega⟩,?_⟩)
    intro r9 h9
    have l9:r9.length=a.length:=by rw [h9,List.length_set]; exact l8
    try rw [e8] at h9
    try dsimp only at h9
    rw [h8,List.set_set] at h9
    have e9:Zaa r9 k=_:=(congrArg (fun r=>Zaa r k) h9).trans (ZaB (t:=Zae) hk0)
    try rw [e9]
    try simp (disch:=omega) only [ZaR,ZaR,Zag,Zao,Zad,Zam,Zaq,Zas,Zap,Zaz,Zan,ZaP,Zaw,ZaZ,ZaQ,ZaG]
    repeat (refine ⟨by first | omega | exact ⟨by omega,by omega⟩ | exact ⟨by omega,by omega,by omega⟩,?_⟩)
    intro r10 h10
    have l10:r10.length=a.length:=by rw [h10,List.length_set]; exact l9
    try rw [e9] at h10
    try dsimp only at h10
    rw [h9,List.set_set] at h10
    have e10:Zaa r10 k=_:=(congrArg (fun r=>Zaa r k) h10).trans (ZaB (t:=Zae) hk0)
    try rw [e10]
    try simp (disch:=omega) only [ZaR,ZaR,Zag,Zao,Zad,Zam,Zaq,Zas,Zap,Zaz,Zan,ZaP,Zaw,ZaZ,ZaQ,ZaG]
    repeat (refine ⟨by first | omega | exact ⟨by omega,by omega⟩ | exact ⟨by omega,by omega,by omega⟩,?_⟩)
    intro r11 h11
    have l11:r11.length=a.length:=by rw [h11,List.length_set]; exact l10
    try rw [e10] at h11
    try dsimp only at h11
    rw [h10,List.set_set] at h11
    have e11:Zaa r11 k=_:=(congrArg (fun r=>Zaa r k) h11).trans (ZaB (t:=Zae) hk0)
    try rw [e11]
    try simp (disch:=omega) only [ZaR,ZaR,Zag,Zao,Zad,Zam,Zaq,Zas,Zap,Zaz,Zan,ZaP,Zaw,ZaZ,ZaQ,ZaG]
    repeat (refine ⟨by first | omega | exact ⟨by omega,by omega⟩ | exact ⟨by omega,by omega,by omega⟩,?_⟩)
    intro r12 h12
    have l12:r12.length=a.length:=by rw [h12,List.length_set]; exact l11
    try rw [e11] at h12
    try dsimp only at h12
    rw [h11,List.set_set] at h12
    have e12:Zaa r12 k=_:=(congrArg (fun r=>Zaa r k) h12).trans (ZaB (t:=Zae) hk0)
    try rw [e12]
    try simp (disch:=omega) only [ZaR,ZaR,Zag,Zao,Zad,Zam,Zaq,Zas,Zap,Zaz,Zan,ZaP,Zaw,ZaZ,ZaQ,ZaG]
    repeat (refine ⟨by first | omega | exact ⟨by omega,by omega⟩ | exact ⟨by omega,by omega,by omega⟩,?_⟩)
    intro r13 h13
    have l13:r13.length=a.length:=by rw [h13,List.length_set]; exact l12
    try rw [e12] at h13
    try dsimp only at h13
    rw [h12,List.set_set] at h13
    have e13:Zaa r13 k=_:=(congrArg (fun r=>Zaa r k) h13).trans (ZaB (t:=Zae) hk0)
    try rw [e13]
    try simp (disch:=omega) only [ZaR,ZaR,Zag,Zao,Zad,Zam,Zaq,Zas,Zap,Zaz,Zan,ZaP,Zaw,ZaZ,ZaQ,ZaG]
    repeat (refine ⟨by first | omega | exact ⟨by omega,by omega⟩ | exact ⟨by omega,by omega,by omega⟩,?_⟩)
    intro r14 h14
    have l14:r14.length=a.length:=by rw [h14,List.length_set]; exact l13
    try rw [e13] at h14
    try dsimp only at h14
    rw [h13,List.set_set] at h14
    have e14:Zaa r14 k=_:=(congrArg (fun r=>Zaa r k) h14).trans (ZaB (t:=Zae) hk0)
    try rw [e14]
    try simp (disch:=omega) only [ZaR,ZaR,Zag,Zao,Zad,Zam,Zaq,Zas,Zap,Zaz,Zan,ZaP,Zaw,ZaZ,ZaQ,ZaG]
    repeat (refine ⟨by first | omega | exact ⟨by omega,by omega⟩ | exact ⟨by omega,by omega,by omega⟩,?_⟩)
    intro r15 h15
    have l15:r15.length=a.length:=by rw [h15,List.length_set]; exact l14
    try rw [e14] at h15
    try dsimp only at h15
    rw [h14,List.set_set] at h15
    have e15:Zaa r15 k=_:=(congrArg (fun r=>Zaa r k) h15).trans (ZaB (t:=Zae) hk0)
    try rw [e15]
    try simp (disch:=omega) only [ZaR,ZaR,Zag,Zao,Zad,Zam,Zaq,Zas,Zap,Zaz,Zan,ZaP,Zaw,ZaZ,ZaQ,ZaG]
    repeat (refine ⟨by first | omega | exact ⟨by omega,by omega⟩ | exact ⟨by omega,by omega,by omega⟩,?_⟩)
    intro r16 h16
    have l16:r16.length=a.length:=by rw [h16,List.length_set]; exact l15
    try rw [e15] at h16
    try dsimp only at h16
    rw [h15,List.set_set] at h16
    have e16:Zaa r16 k=_:=(congrArg (fun r=>Zaa r k) h16).trans (ZaB (t:=Zae) hk0)
    try rw [e16]
    try simp (disch:=omega) only [ZaR,ZaR,Zag,Zao,Zad,Zam,Zaq,Zas,Zap,Zaz,Zan,ZaP,Zaw,ZaZ,ZaQ,ZaG]
    repeat (refine ⟨by first | omega | exact ⟨by omega,by omega⟩ | exact ⟨by omega,by omega,by omega⟩,?_⟩)
    intro r17 h17
    have l17:r17.length=a.length:=by rw [h17,List.length_set]; exact l16
    try rw [e16] at h17
    try dsimp only at h17
    rw [h16,List.set_set] at h17
    have e17:Zaa r17 k=_:=(congrArg (fun r=>Zaa r k) h17).trans (ZaB (t:=Zae) hk0)
    try rw [e17]
    try simp (disch:=omega) only [ZaR,ZaR,Zag,Zao,Zad,Zam,Zaq,Zas,Zap,Zaz,Zan,ZaP,Zaw,ZaZ,ZaQ,ZaG]
    refine ⟨k + 1,hlt,by clear e1 h1 l1 r1 e2 h2 l2 r2 e3 h3 l3 r3 e4 h4 l4 r4 e5 h5 l5 r5 e6 h6 l6 r6 e7 h7 l7 r7 e8 h8 l8 r8 e9 h9 l9 r9 e10 h10 l10 r10 e11 h11 l11 r11 e12 h12 l12 r12 e13 h13 l13 r13 e14 h14 l14 r14 e15 h15 l15 r15 e16 h16 l16 r16 e17 h17 l17 r17; omega,⟨by clear e1 h1 l1 r1 e2 h2 l2 r2 e3 h3 l3 r3 e4 h4 l4 r4 e5 h5 l5 r5 e6 h6 l6 r6 e7 h7 l7 r7 e8 h8 l8 r8 e9 h9 l9 r9 e10 h10 l10 r10 e11 h11 l11 r11 e12 h12 l12 r12 e13 h13 l13 r13 e14 h14 l14 r14 e15 h15 l15 r15 e16 h16 l16 r16 e17 h17 l17 r17; first | omega | (simp (disch:=omega) only [ZaR,ZaR,Zag,Zao,Zad,Zam,Zaq,Zas,Zap,Zaz,Zan,ZaP,Zaw,ZaZ,ZaQ,ZaG]; omega),by clear e1 h1 l1 r1 e2 h2 l2 r2 e3 h3 l3 r3 e4 h4 l4 r4 e5 h5 l5 r5 e6 h6 l6 r6 e7 h7 l7 r7 e8 h8 l8 r8 e9 h9 l9 r9 e10 h10 l10 r10 e11 h11 l11 r11 e12 h12 l12 r12 e13 h13 l13 r13 e14 h14 l14 r14 e15 h15 l15 r15 e16 h16 l16 r16 e17 h17 l17 r17; first | omega | exact ZbN (by unfold maxLen; omega)⟩,Eq.mpr (ZaV (t:=Zae)) (h17.trans (ZgK hg ?_))⟩
    exact ZeV
  · have l0:(Za4 a m k).length=a.length:=ZcP a m k
    exact ZeX
def Zm1:Zcd Tryz.prog:=⟨52,[(.q false (.list Zae)),(.a (.v ZaC))],fun x=>Zd2 x.1 x.2.1,fun x=>(ZcA x.1 x.2.1,x.2.1,()),fun x=>.c (.int .i64 (ZaG x.1 x.2.1)),fun _=>[],fun x hx=>Zm0 x.1 x.2.1 hx,Tryz.call52⟩
abbrev ZbZ (a:Za6) (m:Int):Int:=m + ((cntI a:Nat):Int)
abbrev Zbi (a:Za6) (m:Int):Za6:=mrkI a m
abbrev ZdJ (a:Za6) (m:Int):Prop:=0≤m∧m + cntI a≤4611686018427387904
theorem Zp9 (a:Za6) (m:Int) (hpre:ZdJ a m):Zc0 Tryz.prog 16 (ZcX 0 [(.q true Zbp),(.a (.v ZaC))] (a,m,())) (Zga 0 [(.q true Zbp),(.a (.v ZaC))] (a,m,())) (ZdF 0 [(.q true Zbp),(.a (.v ZaC))] (Zbi a m,m,()) ++ []) (inpM 0 [(.q true Zbp),(.a (.v ZaC))]) (.c (.int .i64 (ZbZ a m))):=by
  refine Zb1 (T:=⟨[],[],[],[ZrR,Zm1],none,fun _=>[],3,[0,1,2],[]⟩) (L:=L0) Tryz.func16 rfl rfl rfl (by kernel_rfl) (fun hwf hwm=>?_)
  refine Eq.mpr (β:=(T5 ((pt (ZfN a.1 m∧((((a.1.1=a.1.1)∧(a.1.2.1=a.1.2.1)∧(cI a.1.2.2 a.1.2.2)∧True))∧True)))∧∀ r0:List ZaM,r0=(Zb6 a.1 m).1→∀ r1:List Zax,r1=(Zb6 a.1 m).2.1→(T4 ((pt (Zd2 a.2 (Zaz a.1 m)∧((a.2=a.2)∧True)))∧∀ r2:List Zal,r2=ZcA a.2 (Zaz a.1 m)→(T3 (pt (((r0=(Zbi a m).1.1)∧(r1=(Zbi a m).1.2.1)∧(r2=(Zbi a m).2)∧True)∧(cI (ZaG a.2 (Zaz a.1 m)) (ZbZ a m)))))))))) (by kernel_rfl) ?_
  unfold T3 T4 T5
  obtain ⟨hm0,hm1⟩:=hpre
  have hc0:cntI a=cntL a.1.1 + (cntL a.1.2.1 + (0)) + (cntL a.2):=rfl
  have hc1:cntI a.1=cntL a.1.1 + (cntL a.1.2.1 + (0)):=rfl
  simp only [SIA,eq_self]
  simp only [ZaR,Zag,Zao,Zad,Zam,Zaq,Zas,Zap,Zaz,Zan,ZaP,Zaw,ZaZ,ZaQ,ZaG,ZbZ,Zcm,ZjO,Zcx,Zh9,Zdb,Zdc,Zcn,Zb6,Zdm,Zp8,Zdn,ZnW,ZlP,ZcA,Zbi]
  exact Zwe
def Zqa:Zcd Tryz.prog:=⟨16,[(.q true Zbp),(.a (.v ZaC))],fun x=>ZdJ x.1 x.2.1,fun x=>(Zbi x.1 x.2.1,x.2.1,()),fun x=>.c (.int .i64 (ZbZ x.1 x.2.1)),fun _=>[],fun x hx=>Zp9 x.1 x.2.1 hx,Tryz.call16⟩
end Go.Proofs.YtkompmgleojmlaaGreat
