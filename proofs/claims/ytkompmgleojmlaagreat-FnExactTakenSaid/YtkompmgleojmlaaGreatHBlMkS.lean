import Derived.Test.YtkompmgleojmlaaGreatHMarkB
set_option linter.unusedSimpArgs false
set_option linter.unusedVariables false
set_option maxRecDepth 100000
set_option maxHeartbeats 4000000
namespace Go.Proofs.YtkompmgleojmlaaGreat
open Go.ChangeShapes Go.WideShapes Go.ChangeAt Go.RowKit Go.Joins Go.Deep
open GoRep (rep bulk)
open GoMark (mrk cnt mrkI cntI)
abbrev Zai (a:List ByteArray) (m:Int):Int:=m + ((cntL a:Nat):Int)
abbrev ZcT (a:List ByteArray) (m:Int):List ByteArray:=markL a m
abbrev ZbC (a:List ByteArray) (m:Int) (k:Nat):List ByteArray:=Zv2 a m k
abbrev Zfd (a:List ByteArray) (m:Int):Prop:=0≤m∧m + cntL a≤4611686018427387904
def Zpu (a:List ByteArray) (m:Int):Nat→List AV→Mem→Zbj
 | 2,tm,M=>⟨Nat,fun y=>(Zcn (ZcC tm [(1, .c (.int .i64 (m + ((cntL (List.take y a):Nat):Int)))),(5, .c (.int .i64 ((y:Nat):Int)))]) 6 13,ZlQ M [(0, .row ZaW (ZbC a m y) 0 0 none)]),fun y=>(y≤List.length a),fun y=>(List.length a - y)⟩
 | _,_,_=>⟨Unit,fun _=>([],[]),fun _=>False,fun _=>0⟩
theorem Zpv (a:List ByteArray) (m:Int) (hpre:Zfd a m):Zet Tryz.prog 209 (Zea 0 [(.q false (.list ZaW)),(.a (.v Zaz))] (a,m,())) (Zh2 0 [(.q false (.list ZaW)),(.a (.v Zaz))] (a,m,())) (Zfm 0 [(.q false (.list ZaW)),(.a (.v Zaz))] (ZcT a m,m,()) ++ []) (inpM 0 [(.q false (.list ZaW)),(.a (.v Zaz))]) (.c (.int .i64 (Zai a m))):=by
 refine Zdy (T:=⟨[Zco],[],[],[],none,fun _=>[],1,[0],[]⟩) (L:=(Zpu a m)) Tryz.func209 rfl rfl rfl (by kernel_rfl) (fun hwf hwm=>?_)
 refine Eq.mpr (β:=T2 ((∃ q:Nat,(q≤a.length)∧lxs [.c (.row 0 0)] (vI m (m + (cntL (List.take q a):Int))∧lxs [.tp [], .tp [],ci 0] (vI 0 q∧TN 13 (lxs [.tp []] True)))∧pt (leB (.row ZaW a 0 0 none) (.row ZaW (ZbC a m q) 0 0 none)∧True))∧∀ y0:Nat,(y0≤a.length)→T4 (bif ltI y0 (List.length (ZbC a m y0)) then T3 (pt (Zgt (m + (cntL (List.take y0 a):Int)))∧ix 1 y0 (List.length (ZbC a m y0))∧True∧∀ r1:List ByteArray,r1=List.set (ZbC a m y0) y0 (Zct (m + (cntL (List.take y0 a):Int)))→T6 (∃ y0' : Nat,(y0'≤a.length)∧(a.length - y0') < (a.length - y0)∧lxs [.c (.row 0 0)] (vI (w64 ((m + (cntL (List.take y0 a):Int)) + 1)) (m + (cntL (List.take y0' a):Int))∧lxs [.tp [], .tp [],ci 0] (vI (w64 ((y0:Int) + 1)) y0'∧TN 13 (lxs [.tp []] True)))∧pt (leB (.row ZaW r1 0 0 none) (.row ZaW (ZbC a m y0') 0 0 none)∧True))) else T2 (pt (((ZbC a m y0)=ZcT a m∧True)∧cI (m + (cntL (List.take y0 a):Int)) (Zai a m)))))) (by kernel_rfl) ?_
 unfold T2 T3 T4 T6
 obtain ⟨hm0,hm1⟩:=hpre
 have hlm:a.length≤maxLen:=hwm.1.1
 unfold maxLen at hlm
 simp only [SIA,eq_self]
 refine ⟨⟨0,Nat.zero_le _,⟨by simp [cntL],rfl⟩,Eq.mpr (Za9 (t:=ZaW)) (ZfI a m).symm⟩,fun k hk=>⟨fun hlt=>?_,fun hge=>?_⟩⟩
 ·have l0:(ZbC a m k).length=a.length:=Zdw a m k
  have hlt:k < a.length:=by omega
  have hg:a[k]?=some (ZaF a k):=Zau (t:=ZaW) hlt
  have hc:cntL (List.take (k + 1) a)=cntL (List.take k a) + (1):=ZcN hg
  have hcl:cntL (List.take (k + 1) a)≤cntL a:=Zel a (k + 1)
  have hg0:(ZbC a m k)[k]?=some (ZaF a k):=ZhE hg
  have hk0:k < (ZbC a m k).length:=by omega
  have e0:ZaF (ZbC a m k) k=ZaF a k:=Zcj (t:=ZaW) hg0
  try simp (disch:=omega) only [Za3,Za3,Zai]
  repeat (refine ⟨by first | omega | exact ⟨by omega,by omega⟩ | exact ⟨by omega,by omega,by omega⟩,?_⟩)
  intro r1 h1
  have l1:r1.length=a.length:=by rw [h1,List.length_set]; exact l0
  try rw [e0] at h1
  try dsimp only at h1
  have e1:ZaF r1 k=_:=(congrArg (fun r=>ZaF r k) h1).trans (ZaH (t:=ZaW) hk0)
  try rw [e1]
  try simp (disch:=omega) only [Za3,Za3,Zai]
  refine ⟨k + 1,hlt,by clear e1 h1 l1 r1; omega,⟨by clear e1 h1 l1 r1; first | omega | (simp (disch:=omega) only [Za3,Za3,Zai]; omega),by clear e1 h1 l1 r1; first | omega | exact ZbL (by unfold maxLen; omega)⟩,Eq.mpr (Za9 (t:=ZaW)) (h1.trans (ZhF hg ?_))⟩
  exact ZfJ
 ·have l0:(ZbC a m k).length=a.length:=Zdw a m k
  exact ZfM
def Zpw:Zdj Tryz.prog:=⟨209,[(.q false (.list ZaW)),(.a (.v Zaz))],fun x=>Zfd x.1 x.2.1,fun x=>(ZcT x.1 x.2.1,x.2.1,()),fun x=>.c (.int .i64 (Zai x.1 x.2.1)),fun _=>[],fun x hx=>Zpv x.1 x.2.1 hx,Tryz.call209⟩
abbrev Zar (a:List Int) (m:Int):Int:=m + ((cntL a:Nat):Int)
abbrev ZkX (a:List Int) (m:Int):List Int:=markL a m
abbrev Zah (a:List ZaZ) (m:Int):Int:=m + ((cntL a:Nat):Int)
abbrev Zc7 (a:List ZaZ) (m:Int):List ZaZ:=markL a m
abbrev ZbD (a:List ZaZ) (m:Int) (k:Nat):List ZaZ:=Zv2 a m k
abbrev ZfU (a:List ZaZ) (m:Int):Prop:=0≤m∧m + cntL a≤4611686018427387904
def Zse (a:List ZaZ) (m:Int):Nat→List AV→Mem→Zbj
 | 2,tm,M=>⟨Nat,fun y=>(Zcn (ZcC tm [(1, .c (.int .i64 (m + ((cntL (List.take y a):Nat):Int)))),(5, .c (.int .i64 ((y:Nat):Int)))]) 6 27,ZlQ M [(0, .row Zak (ZbD a m y) 0 0 none)]),fun y=>(y≤List.length a),fun y=>(List.length a - y)⟩
 | _,_,_=>⟨Unit,fun _=>([],[]),fun _=>False,fun _=>0⟩
theorem Zsf (a:List ZaZ) (m:Int) (hpre:ZfU a m):Zet Tryz.prog 129 (Zea 0 [(.q false (.list Zak)),(.a (.v Zaz))] (a,m,())) (Zh2 0 [(.q false (.list Zak)),(.a (.v Zaz))] (a,m,())) (Zfm 0 [(.q false (.list Zak)),(.a (.v Zaz))] (Zc7 a m,m,()) ++ []) (inpM 0 [(.q false (.list Zak)),(.a (.v Zaz))]) (.c (.int .i64 (Zah a m))):=by
 refine Zdy (T:=⟨[],[],[],[Zpw],none,fun _=>[],1,[0],[]⟩) (L:=(Zse a m)) Tryz.func129 rfl rfl rfl (by kernel_rfl) (fun hwf hwm=>?_)
 refine Eq.mpr (β:=T2 ((∃ q:Nat,(q≤a.length)∧lxs [.c (.row 0 0)] (vI m (m + (cntL (List.take q a):Int))∧lxs [.tp [], .tp [],ci 0] (vI 0 q∧TN 27 (lxs [.tp []] True)))∧pt (leB (.row Zak a 0 0 none) (.row Zak (ZbD a m q) 0 0 none)∧True))∧∀ y0:Nat,(y0≤a.length)→T4 (bif ltI y0 (List.length (ZbD a m y0)) then T3 (ix 3 y0 (List.length (ZbD a m y0))∧T2 (∀ r1:List ZaZ,r1=List.set (ZbD a m y0) y0 ((m + (cntL (List.take y0 a):Int)),(Zaq (ZbD a m y0) y0).2)→T5 (ix 3 y0 r1.length∧T3 (pt (Zfd (Zaq r1 y0).2.1 (w64 ((m + (cntL (List.take y0 a):Int)) + 1))∧(Zaq r1 y0).2.1=(Zaq r1 y0).2.1∧True)∧∀ r2:List ZaZ,r2=List.set r1 y0 ((Zaq r1 y0).1,ZcT (Zaq r1 y0).2.1 (w64 ((m + (cntL (List.take y0 a):Int)) + 1)),(Zaq r1 y0).2.2)→T4 (ix 3 y0 r2.length∧T2 (∀ r3:List ZaZ,r3=List.set r2 y0 ((Zaq r2 y0).1,(Zaq r2 y0).2.1,Zai (Zaq r1 y0).2.1 (w64 ((m + (cntL (List.take y0 a):Int)) + 1)))→T6 (∃ y0' : Nat,(y0'≤a.length)∧(a.length - y0') < (a.length - y0)∧lxs [.c (.row 0 0)] (vI (w64 (Zai (Zaq r1 y0).2.1 (w64 ((m + (cntL (List.take y0 a):Int)) + 1)) + 1)) (m + (cntL (List.take y0' a):Int))∧lxs [.tp [], .tp [],ci 0] (vI (w64 ((y0:Int) + 1)) y0'∧TN 27 (lxs [.tp []] True)))∧pt (leB (.row Zak r3 0 0 none) (.row Zak (ZbD a m y0') 0 0 none)∧True)))))))) else T2 (pt (((ZbD a m y0)=Zc7 a m∧True)∧cI (m + (cntL (List.take y0 a):Int)) (Zah a m)))))) (by kernel_rfl) ?_
 unfold T2 T3 T4 T5 T6
 obtain ⟨hm0,hm1⟩:=hpre
 have hlm:a.length≤maxLen:=hwm.1.1
 unfold maxLen at hlm
 simp only [SIA,eq_self]
 refine ⟨⟨0,Nat.zero_le _,⟨by simp [cntL],rfl⟩,Eq.mpr (Za9 (t:=Zak)) (ZfI a m).symm⟩,fun k hk=>⟨fun hlt=>?_,fun hge=>?_⟩⟩
 ·have l0:(ZbD a m k).length=a.length:=Zdw a m k
  have hlt:k < a.length:=by omega
  have hg:a[k]?=some (Zaq a k):=Zau (t:=Zak) hlt
  have hc:cntL (List.take (k + 1) a)=cntL (List.take k a) + (1 + (cntL (Zaq a k).2.1 + (1))):=ZcN hg
  have hcl:cntL (List.take (k + 1) a)≤cntL a:=Zel a (k + 1)
  have hg0:(ZbD a m k)[k]?=some (Zaq a k):=ZhE hg
  have hk0:k < (ZbD a m k).length:=by omega
  have e0:Zaq (ZbD a m k) k=Zaq a k:=Zcj (t:=Zak) hg0
  try simp (disch:=omega) only [Za3,Za3,Zai,Zar,Zah]
  repeat (refine ⟨by first | omega | exact ⟨by omega,by omega⟩ | exact ⟨by omega,by omega,by omega⟩,?_⟩)
  intro r1 h1
  have l1:r1.length=a.length:=by rw [h1,List.length_set]; exact l0
  try rw [e0] at h1
  try dsimp only at h1
  have e1:Zaq r1 k=_:=(congrArg (fun r=>Zaq r k) h1).trans (ZaH (t:=Zak) hk0)
  try rw [e1]
  try simp (disch:=omega) only [Za3,Za3,Zai,Zar,Zah]
  repeat (refine ⟨by first | omega | exact ⟨by omega,by omega⟩ | exact ⟨by omega,by omega,by omega⟩,?_⟩)
  intro r2 h2
  have l2:r2.length=a.length:=by rw [h2,List.length_set]; exact l1
  try rw [e1] at h2
  try dsimp only at h2
  rw [h1,List.set_set] at h2
  have e2:Zaq r2 k=_:=(congrArg (fun r=>Zaq r k) h2).trans (ZaH (t:=Zak) hk0)
  try rw [e2]
  try simp (disch:=omega) only [Za3,Za3,Zai,Zar,Zah]
  repeat (refine ⟨by first | omega | exact ⟨by omega,by omega⟩ | exact ⟨by omega,by omega,by omega⟩,?_⟩)
  intro r3 h3
  have l3:r3.length=a.length:=by rw [h3,List.length_set]; exact l2
  try rw [e2] at h3
  try dsimp only at h3
  rw [h2,List.set_set] at h3
  have e3:Zaq r3 k=_:=(congrArg (fun r=>Zaq r k) h3).trans (ZaH (t:=Zak) hk0)
  try rw [e3]
  try simp (disch:=omega) only [Za3,Za3,Zai,Zar,Zah]
  refine ⟨k + 1,hlt,by clear e1 h1 l1 r1 e2 h2 l2 r2 e3 h3 l3 r3; omega,⟨by clear e1 h1 l1 r1 e2 h2 l2 r2 e3 h3 l3 r3; first | omega | (simp (disch:=omega) only [Za3,Za3,Zai,Zar,Zah]; omega),by clear e1 h1 l1 r1 e2 h2 l2 r2 e3 h3 l3 r3; first | omega | exact ZbL (by unfold maxLen; omega)⟩,Eq.mpr (Za9 (t:=Zak)) (h3.trans (ZhF hg ?_))⟩
  exact ZfJ
 ·have l0:(ZbD a m k).length=a.length:=Zdw a m k
  exact ZfM
def Zsg:Zdj Tryz.prog:=⟨129,[(.q false (.list Zak)),(.a (.v Zaz))],fun x=>ZfU x.1 x.2.1,fun x=>(Zc7 x.1 x.2.1,x.2.1,()),fun x=>.c (.int .i64 (Zah x.1 x.2.1)),fun _=>[],fun x hx=>Zsf x.1 x.2.1 hx,Tryz.call129⟩
abbrev Zao (a:Zb3) (m:Int):Int:=m + ((cntI a:Nat):Int)
abbrev Zi1 (a:Zb3) (m:Int):Zb3:=mrkI a m
abbrev Zat (a:List Zds) (m:Int):Int:=m + ((cntL a:Nat):Int)
abbrev ZdR (a:List Zds) (m:Int):List Zds:=markL a m
abbrev ZbZ (a:List Zds) (m:Int) (k:Nat):List Zds:=Zv2 a m k
abbrev ZhR (a:List Zds) (m:Int):Prop:=0≤m∧m + cntL a≤4611686018427387904
def ZwC (a:List Zds) (m:Int):Nat→List AV→Mem→Zbj
 | 2,tm,M=>⟨Nat,fun y=>(Zcn (ZcC tm [(1, .c (.int .i64 (m + ((cntL (List.take y a):Nat):Int)))),(5, .c (.int .i64 ((y:Nat):Int)))]) 6 28,ZlQ M [(0, .row ZaU (ZbZ a m y) 0 0 none)]),fun y=>(y≤List.length a),fun y=>(List.length a - y)⟩
 | _,_,_=>⟨Unit,fun _=>([],[]),fun _=>False,fun _=>0⟩
theorem ZwD (a:List Zds) (m:Int) (hpre:ZhR a m):Zet Tryz.prog 208 (Zea 0 [(.q false (.list ZaU)),(.a (.v Zaz))] (a,m,())) (Zh2 0 [(.q false (.list ZaU)),(.a (.v Zaz))] (a,m,())) (Zfm 0 [(.q false (.list ZaU)),(.a (.v Zaz))] (ZdR a m,m,()) ++ []) (inpM 0 [(.q false (.list ZaU)),(.a (.v Zaz))]) (.c (.int .i64 (Zat a m))):=by
 refine Zdy (T:=⟨[Zco],[],[],[],none,fun _=>[],1,[0],[]⟩) (L:=(ZwC a m)) Tryz.func208 rfl rfl rfl (by kernel_rfl) (fun hwf hwm=>?_)
 refine Eq.mpr (β:=T2 ((∃ q:Nat,(q≤a.length)∧lxs [.c (.row 0 0)] (vI m (m + (cntL (List.take q a):Int))∧lxs [.tp [], .tp [],ci 0] (vI 0 q∧TN 28 (lxs [.tp []] True)))∧pt (leB (.row ZaU a 0 0 none) (.row ZaU (ZbZ a m q) 0 0 none)∧True))∧∀ y0:Nat,(y0≤a.length)→T4 (bif ltI y0 (List.length (ZbZ a m y0)) then T3 (ix 3 y0 (List.length (ZbZ a m y0))∧T2 (∀ r1:List Zds,r1=List.set (ZbZ a m y0) y0 ((m + (cntL (List.take y0 a):Int)),(ZaG (ZbZ a m y0) y0).2)→T6 (ix 3 y0 r1.length∧T2 (∀ r2:List Zds,r2=List.set r1 y0 ((ZaG r1 y0).1,(w64 ((m + (cntL (List.take y0 a):Int)) + 1)),(ZaG r1 y0).2.2)→T6 (pt (Zgt (w64 ((w64 ((m + (cntL (List.take y0 a):Int)) + 1)) + 1)))∧ix 3 y0 r2.length∧T2 (∀ r3:List Zds,r3=List.set r2 y0 ((ZaG r2 y0).1,(ZaG r2 y0).2.1,Zct (w64 ((w64 ((m + (cntL (List.take y0 a):Int)) + 1)) + 1)))→T6 (∃ y0' : Nat,(y0'≤a.length)∧(a.length - y0') < (a.length - y0)∧lxs [.c (.row 0 0)] (vI (w64 ((w64 ((w64 ((m + (cntL (List.take y0 a):Int)) + 1)) + 1)) + 1)) (m + (cntL (List.take y0' a):Int))∧lxs [.tp [], .tp [],ci 0] (vI (w64 ((y0:Int) + 1)) y0'∧TN 28 (lxs [.tp []] True)))∧pt (leB (.row ZaU r3 0 0 none) (.row ZaU (ZbZ a m y0') 0 0 none)∧True)))))))) else T2 (pt (((ZbZ a m y0)=ZdR a m∧True)∧cI (m + (cntL (List.take y0 a):Int)) (Zat a m)))))) (by kernel_rfl) ?_
 unfold T2 T3 T4 T6
 obtain ⟨hm0,hm1⟩:=hpre
 have hlm:a.length≤maxLen:=hwm.1.1
 unfold maxLen at hlm
 simp only [SIA,eq_self]
 refine ⟨⟨0,Nat.zero_le _,⟨by simp [cntL],rfl⟩,Eq.mpr (Za9 (t:=ZaU)) (ZfI a m).symm⟩,fun k hk=>⟨fun hlt=>?_,fun hge=>?_⟩⟩
 ·have l0:(ZbZ a m k).length=a.length:=Zdw a m k
  have hlt:k < a.length:=by omega
  have hg:a[k]?=some (ZaG a k):=Zau (t:=ZaU) hlt
  have hc:cntL (List.take (k + 1) a)=cntL (List.take k a) + (1 + (1 + (1))):=ZcN hg
  have hcl:cntL (List.take (k + 1) a)≤cntL a:=Zel a (k + 1)
  have hg0:(ZbZ a m k)[k]?=some (ZaG a k):=ZhE hg
  have hk0:k < (ZbZ a m k).length:=by omega
  have e0:ZaG (ZbZ a m k) k=ZaG a k:=Zcj (t:=ZaU) hg0
  try simp (disch:=omega) only [Za3,Za3,Zai,Zar,Zah,Zao,Zat]
  repeat (refine ⟨by first | omega | exact ⟨by omega,by omega⟩ | exact ⟨by omega,by omega,by omega⟩,?_⟩)
  intro r1 h1
  have l1:r1.length=a.length:=by rw [h1,List.length_set]; exact l0
  try rw [e0] at h1
  try dsimp only at h1
  have e1:ZaG r1 k=_:=(congrArg (fun r=>ZaG r k) h1).trans (ZaH (t:=ZaU) hk0)
  try rw [e1]
  try simp (disch:=omega) only [Za3,Za3,Zai,Zar,Zah,Zao,Zat]
  repeat (refine ⟨by first | omega | exact ⟨by omega,by omega⟩ | exact ⟨by omega,by omega,by omega⟩,?_⟩)
  intro r2 h2
  have l2:r2.length=a.length:=by rw [h2,List.length_set]; exact l1
  try rw [e1] at h2
  try dsimp only at h2
  rw [h1,List.set_set] at h2
  have e2:ZaG r2 k=_:=(congrArg (fun r=>ZaG r k) h2).trans (ZaH (t:=ZaU) hk0)
  try rw [e2]
  try simp (disch:=omega) only [Za3,Za3,Zai,Zar,Zah,Zao,Zat]
  repeat (refine ⟨by first | omega | exact ⟨by omega,by omega⟩ | exact ⟨by omega,by omega,by omega⟩,?_⟩)
  intro r3 h3
  have l3:r3.length=a.length:=by rw [h3,List.length_set]; exact l2
  try rw [e2] at h3
  try dsimp only at h3
  rw [h2,List.set_set] at h3
  have e3:ZaG r3 k=_:=(congrArg (fun r=>ZaG r k) h3).trans (ZaH (t:=ZaU) hk0)
  try rw [e3]
  try simp (disch:=omega) only [Za3,Za3,Zai,Zar,Zah,Zao,Zat]
  refine ⟨k + 1,hlt,by clear e1 h1 l1 r1 e2 h2 l2 r2 e3 h3 l3 r3; omega,⟨by clear e1 h1 l1 r1 e2 h2 l2 r2 e3 h3 l3 r3; first | omega | (simp (disch:=omega) only [Za3,Za3,Zai,Zar,Zah,Zao,Zat]; omega),by clear e1 h1 l1 r1 e2 h2 l2 r2 e3 h3 l3 r3; first | omega | exact ZbL (by unfold maxLen; omega)⟩,Eq.mpr (Za9 (t:=ZaU)) (h3.trans (ZhF hg ?_))⟩
  exact ZfJ
 ·have l0:(ZbZ a m k).length=a.length:=Zdw a m k
  exact ZfM
def ZwE:Zdj Tryz.prog:=⟨208,[(.q false (.list ZaU)),(.a (.v Zaz))],fun x=>ZhR x.1 x.2.1,fun x=>(ZdR x.1 x.2.1,x.2.1,()),fun x=>.c (.int .i64 (Zat x.1 x.2.1)),fun _=>[],fun x hx=>ZwD x.1 x.2.1 hx,Tryz.call208⟩
abbrev Zav (a:List ZaM) (m:Int):Int:=m + ((cntL a:Nat):Int)
abbrev ZdS (a:List ZaM) (m:Int):List ZaM:=markL a m
abbrev Zb0 (a:List ZaM) (m:Int) (k:Nat):List ZaM:=Zv2 a m k
abbrev ZhS (a:List ZaM) (m:Int):Prop:=0≤m∧m + cntL a≤4611686018427387904
def ZwF (a:List ZaM) (m:Int):Nat→List AV→Mem→Zbj
 | 2,tm,M=>⟨Nat,fun y=>(Zcn (ZcC tm [(1, .c (.int .i64 (m + ((cntL (List.take y a):Nat):Int)))),(5, .c (.int .i64 ((y:Nat):Int)))]) 6 35,ZlQ M [(0, .row Zaj (Zb0 a m y) 0 0 none)]),fun y=>(y≤List.length a),fun y=>(List.length a - y)⟩
 | _,_,_=>⟨Unit,fun _=>([],[]),fun _=>False,fun _=>0⟩
theorem ZwG (a:List ZaM) (m:Int) (hpre:ZhS a m):Zet Tryz.prog 126 (Zea 0 [(.q false (.list Zaj)),(.a (.v Zaz))] (a,m,())) (Zh2 0 [(.q false (.list Zaj)),(.a (.v Zaz))] (a,m,())) (Zfm 0 [(.q false (.list Zaj)),(.a (.v Zaz))] (ZdS a m,m,()) ++ []) (inpM 0 [(.q false (.list Zaj)),(.a (.v Zaz))]) (.c (.int .i64 (Zav a m))):=by
 refine Zdy (T:=⟨[Zco],[],[],[ZwE],none,fun _=>[],1,[0],[]⟩) (L:=(ZwF a m)) Tryz.func126 rfl rfl rfl (by kernel_rfl) (fun hwf hwm=>?_)
 refine Eq.mpr (β:=T2 ((∃ q:Nat,(q≤a.length)∧lxs [.c (.row 0 0)] (vI m (m + (cntL (List.take q a):Int))∧lxs [.tp [], .tp [],ci 0] (vI 0 q∧TN 35 (lxs [.tp []] True)))∧pt (leB (.row Zaj a 0 0 none) (.row Zaj (Zb0 a m q) 0 0 none)∧True))∧∀ y0:Nat,(y0≤a.length)→T4 (bif ltI y0 (List.length (Zb0 a m y0)) then T3 (pt (Zgt (m + (cntL (List.take y0 a):Int)))∧ix 4 y0 (List.length (Zb0 a m y0))∧T2 (∀ r1:List ZaM,r1=List.set (Zb0 a m y0) y0 (Zct (m + (cntL (List.take y0 a):Int)),(Zab (Zb0 a m y0) y0).2)→T6 (ix 4 y0 r1.length∧T2 (∀ r2:List ZaM,r2=List.set r1 y0 ((Zab r1 y0).1,(w64 ((m + (cntL (List.take y0 a):Int)) + 1)),(Zab r1 y0).2.2)→T6 (ix 4 y0 r2.length∧T2 (∀ r3:List ZaM,r3=List.set r2 y0 ((Zab r2 y0).1,(Zab r2 y0).2.1,(w64 ((w64 ((m + (cntL (List.take y0 a):Int)) + 1)) + 1)),(Zab r2 y0).2.2.2)→T5 (ix 4 y0 r3.length∧T3 (pt (ZhR (Zab r3 y0).2.2.2 (w64 ((w64 ((w64 ((m + (cntL (List.take y0 a):Int)) + 1)) + 1)) + 1))∧(Zab r3 y0).2.2.2=(Zab r3 y0).2.2.2∧True)∧∀ r4:List ZaM,r4=List.set r3 y0 ((Zab r3 y0).1,(Zab r3 y0).2.1,(Zab r3 y0).2.2.1,ZdR (Zab r3 y0).2.2.2 (w64 ((w64 ((w64 ((m + (cntL (List.take y0 a):Int)) + 1)) + 1)) + 1)))→T4 (∃ y0' : Nat,(y0'≤a.length)∧(a.length - y0') < (a.length - y0)∧lxs [.c (.row 0 0)] (vI (Zat (Zab r3 y0).2.2.2 (w64 ((w64 ((w64 ((m + (cntL (List.take y0 a):Int)) + 1)) + 1)) + 1))) (m + (cntL (List.take y0' a):Int))∧lxs [.tp [], .tp [],ci 0] (vI (w64 ((y0:Int) + 1)) y0'∧TN 35 (lxs [.tp []] True)))∧pt (leB (.row Zaj r4 0 0 none) (.row Zaj (Zb0 a m y0') 0 0 none)∧True)))))))))) else T2 (pt (((Zb0 a m y0)=ZdS a m∧True)∧cI (m + (cntL (List.take y0 a):Int)) (Zav a m)))))) (by kernel_rfl) ?_
 unfold T2 T3 T4 T5 T6
 obtain ⟨hm0,hm1⟩:=hpre
 have hlm:a.length≤maxLen:=hwm.1.1
 unfold maxLen at hlm
 simp only [SIA,eq_self]
 refine ⟨⟨0,Nat.zero_le _,⟨by simp [cntL],rfl⟩,Eq.mpr (Za9 (t:=Zaj)) (ZfI a m).symm⟩,fun k hk=>⟨fun hlt=>?_,fun hge=>?_⟩⟩
 ·have l0:(Zb0 a m k).length=a.length:=Zdw a m k
  have hlt:k < a.length:=by omega
  have hg:a[k]?=some (Zab a k):=Zau (t:=Zaj) hlt
  have hc:cntL (List.take (k + 1) a)=cntL (List.take k a) + (1 + (1 + (1 + (cntL (Zab a k).2.2.2)))):=ZcN hg
  have hcl:cntL (List.take (k + 1) a)≤cntL a:=Zel a (k + 1)
  have hg0:(Zb0 a m k)[k]?=some (Zab a k):=ZhE hg
  have hk0:k < (Zb0 a m k).length:=by omega
  have e0:Zab (Zb0 a m k) k=Zab a k:=Zcj (t:=Zaj) hg0
  try simp (disch:=omega) only [Za3,Za3,Zai,Zar,Zah,Zao,Zat,Zav]
  repeat (refine ⟨by first | omega | exact ⟨by omega,by omega⟩ | exact ⟨by omega,by omega,by omega⟩,?_⟩)
  intro r1 h1
  have l1:r1.length=a.length:=by rw [h1,List.length_set]; exact l0
  try rw [e0] at h1
  try dsimp only at h1
  have e1:Zab r1 k=_:=(congrArg (fun r=>Zab r k) h1).trans (ZaH (t:=Zaj) hk0)
  try rw [e1]
  try simp (disch:=omega) only [Za3,Za3,Zai,Zar,Zah,Zao,Zat,Zav]
  repeat (refine ⟨by first | omega | exact ⟨by omega,by omega⟩ | exact ⟨by omega,by omega,by omega⟩,?_⟩)
  intro r2 h2
  have l2:r2.length=a.length:=by rw [h2,List.length_set]; exact l1
  try rw [e1] at h2
  try dsimp only at h2
  rw [h1,List.set_set] at h2
  have e2:Zab r2 k=_:=(congrArg (fun r=>Zab r k) h2).trans (ZaH (t:=Zaj) hk0)
  try rw [e2]
  try simp (disch:=omega) only [Za3,Za3,Zai,Zar,Zah,Zao,Zat,Zav]
  repeat (refine ⟨by first | omega | exact ⟨by omega,by omega⟩ | exact ⟨by omega,by omega,by omega⟩,?_⟩)
  intro r3 h3
  have l3:r3.length=a.length:=by rw [h3,List.length_set]; exact l2
  try rw [e2] at h3
  try dsimp only at h3
  rw [h2,List.set_set] at h3
  have e3:Zab r3 k=_:=(congrArg (fun r=>Zab r k) h3).trans (ZaH (t:=Zaj) hk0)
  try rw [e3]
  try simp (disch:=omega) only [Za3,Za3,Zai,Zar,Zah,Zao,Zat,Zav]
  repeat (refine ⟨by first | omega | exact ⟨by omega,by omega⟩ | exact ⟨by omega,by omega,by omega⟩,?_⟩)
  intro r4 h4
  have l4:r4.length=a.length:=by rw [h4,List.length_set]; exact l3
  try rw [e3] at h4
  try dsimp only at h4
  rw [h3,List.set_set] at h4
  have e4:Zab r4 k=_:=(congrArg (fun r=>Zab r k) h4).trans (ZaH (t:=Zaj) hk0)
  try rw [e4]
  try simp (disch:=omega) only [Za3,Za3,Zai,Zar,Zah,Zao,Zat,Zav]
  refine ⟨k + 1,hlt,by clear e1 h1 l1 r1 e2 h2 l2 r2 e3 h3 l3 r3 e4 h4 l4 r4; omega,⟨by clear e1 h1 l1 r1 e2 h2 l2 r2 e3 h3 l3 r3 e4 h4 l4 r4; first | omega | (simp (disch:=omega) only [Za3,Za3,Zai,Zar,Zah,Zao,Zat,Zav]; omega),by clear e1 h1 l1 r1 e2 h2 l2 r2 e3 h3 l3 r3 e4 h4 l4 r4; first | omega | exact ZbL (by unfold maxLen; omega)⟩,Eq.mpr (Za9 (t:=Zaj)) (h4.trans (ZhF hg ?_))⟩
  exact ZfJ
 ·have l0:(Zb0 a m k).length=a.length:=Zdw a m k
  exact ZfM
def ZwH:Zdj Tryz.prog:=⟨126,[(.q false (.list Zaj)),(.a (.v Zaz))],fun x=>ZhS x.1 x.2.1,fun x=>(ZdS x.1 x.2.1,x.2.1,()),fun x=>.c (.int .i64 (Zav x.1 x.2.1)),fun _=>[],fun x hx=>ZwG x.1 x.2.1 hx,Tryz.call126⟩
abbrev Zas (a:List Zax) (m:Int):Int:=m + ((cntL a:Nat):Int)
abbrev ZcU (a:List Zax) (m:Int):List Zax:=markL a m
abbrev Zbu (a:List Zax) (m:Int) (k:Nat):List Zax:=Zv2 a m k
abbrev Zfe (a:List Zax) (m:Int):Prop:=0≤m∧m + cntL a≤4611686018427387904
def Zpx (a:List Zax) (m:Int):Nat→List AV→Mem→Zbj
 | 2,tm,M=>⟨Nat,fun y=>(Zcn (ZcC tm [(1, .c (.int .i64 (m + ((cntL (List.take y a):Nat):Int)))),(5, .c (.int .i64 ((y:Nat):Int)))]) 6 50,ZlQ M [(0, .row Zag (Zbu a m y) 0 0 none)]),fun y=>(y≤List.length a),fun y=>(List.length a - y)⟩
 | _,_,_=>⟨Unit,fun _=>([],[]),fun _=>False,fun _=>0⟩
theorem Zpy (a:List Zax) (m:Int) (hpre:Zfe a m):Zet Tryz.prog 127 (Zea 0 [(.q false (.list Zag)),(.a (.v Zaz))] (a,m,())) (Zh2 0 [(.q false (.list Zag)),(.a (.v Zaz))] (a,m,())) (Zfm 0 [(.q false (.list Zag)),(.a (.v Zaz))] (ZcU a m,m,()) ++ []) (inpM 0 [(.q false (.list Zag)),(.a (.v Zaz))]) (.c (.int .i64 (Zas a m))):=by
 refine Zdy (T:=⟨[Zco],[],[],[],none,fun _=>[],1,[0],[]⟩) (L:=(Zpx a m)) Tryz.func127 rfl rfl rfl (by kernel_rfl) (fun hwf hwm=>?_)
 refine Eq.mpr (β:=T2 ((∃ q:Nat,(q≤a.length)∧lxs [.c (.row 0 0)] (vI m (m + (cntL (List.take q a):Int))∧lxs [.tp [], .tp [],ci 0] (vI 0 q∧TN 50 (lxs [.tp []] True)))∧pt (leB (.row Zag a 0 0 none) (.row Zag (Zbu a m q) 0 0 none)∧True))∧∀ y0:Nat,(y0≤a.length)→T4 (bif ltI y0 (List.length (Zbu a m y0)) then T3 (ix 6 y0 (List.length (Zbu a m y0))∧T2 (∀ r1:List Zax,r1=List.set (Zbu a m y0) y0 ((m + (cntL (List.take y0 a):Int)),(Zac (Zbu a m y0) y0).2)→T6 (ix 6 y0 r1.length∧T2 (∀ r2:List Zax,r2=List.set r1 y0 ((Zac r1 y0).1,(w64 ((m + (cntL (List.take y0 a):Int)) + 1)),(Zac r1 y0).2.2)→T6 (ix 6 y0 r2.length∧T2 (∀ r3:List Zax,r3=List.set r2 y0 ((Zac r2 y0).1,(Zac r2 y0).2.1,(w64 ((w64 ((m + (cntL (List.take y0 a):Int)) + 1)) + 1)),(Zac r2 y0).2.2.2)→T6 (ix 6 y0 r3.length∧T2 (∀ r4:List Zax,r4=List.set r3 y0 ((Zac r3 y0).1,(Zac r3 y0).2.1,(Zac r3 y0).2.2.1,(w64 ((w64 ((w64 ((m + (cntL (List.take y0 a):Int)) + 1)) + 1)) + 1)),(Zac r3 y0).2.2.2.2)→T6 (pt (Zgt (w64 ((w64 ((w64 ((w64 ((m + (cntL (List.take y0 a):Int)) + 1)) + 1)) + 1)) + 1)))∧ix 6 y0 r4.length∧T2 (∀ r5:List Zax,r5=List.set r4 y0 ((Zac r4 y0).1,(Zac r4 y0).2.1,(Zac r4 y0).2.2.1,(Zac r4 y0).2.2.2.1,Zct (w64 ((w64 ((w64 ((w64 ((m + (cntL (List.take y0 a):Int)) + 1)) + 1)) + 1)) + 1)),(Zac r4 y0).2.2.2.2.2)→T6 (pt (Zgt (w64 ((w64 ((w64 ((w64 ((w64 ((m + (cntL (List.take y0 a):Int)) + 1)) + 1)) + 1)) + 1)) + 1)))∧ix 6 y0 r5.length∧T2 (∀ r6:List Zax,r6=List.set r5 y0 ((Zac r5 y0).1,(Zac r5 y0).2.1,(Zac r5 y0).2.2.1,(Zac r5 y0).2.2.2.1,(Zac r5 y0).2.2.2.2.1,Zct (w64 ((w64 ((w64 ((w64 ((w64 ((m + (cntL (List.take y0 a):Int)) + 1)) + 1)) + 1)) + 1)) + 1)))→T6 (∃ y0' : Nat,(y0'≤a.length)∧(a.length - y0') < (a.length - y0)∧lxs [.c (.row 0 0)] (vI (w64 ((w64 ((w64 ((w64 ((w64 ((w64 ((m + (cntL (List.take y0 a):Int)) + 1)) + 1)) + 1)) + 1)) + 1)) + 1)) (m + (cntL (List.take y0' a):Int))∧lxs [.tp [], .tp [],ci 0] (vI (w64 ((y0:Int) + 1)) y0'∧TN 50 (lxs [.tp []] True)))∧pt (leB (.row Zag r6 0 0 none) (.row Zag (Zbu a m y0') 0 0 none)∧True)))))))))))))) else T2 (pt (((Zbu a m y0)=ZcU a m∧True)∧cI (m + (cntL (List.take y0 a):Int)) (Zas a m)))))) (by kernel_rfl) ?_
 unfold T2 T3 T4 T6
 obtain ⟨hm0,hm1⟩:=hpre
 have hlm:a.length≤maxLen:=hwm.1.1
 unfold maxLen at hlm
 simp only [SIA,eq_self]
 refine ⟨⟨0,Nat.zero_le _,⟨by simp [cntL],rfl⟩,Eq.mpr (Za9 (t:=Zag)) (ZfI a m).symm⟩,fun k hk=>⟨fun hlt=>?_,fun hge=>?_⟩⟩
 ·have l0:(Zbu a m k).length=a.length:=Zdw a m k
  have hlt:k < a.length:=by omega
  have hg:a[k]?=some (Zac a k):=Zau (t:=Zag) hlt
  have hc:cntL (List.take (k + 1) a)=cntL (List.take k a) + (1 + (1 + (1 + (1 + (1 + (1)))))):=ZcN hg
  have hcl:cntL (List.take (k + 1) a)≤cntL a:=Zel a (k + 1)
  have hg0:(Zbu a m k)[k]?=some (Zac a k):=ZhE hg
  have hk0:k < (Zbu a m k).length:=by omega
  have e0:Zac (Zbu a m k) k=Zac a k:=Zcj (t:=Zag) hg0
  try simp (disch:=omega) only [Za3,Za3,Zai,Zar,Zah,Zao,Zat,Zav,Zas]
  repeat (refine ⟨by first | omega | exact ⟨by omega,by omega⟩ | exact ⟨by omega,by omega,by omega⟩,?_⟩)
  intro r1 h1
  have l1:r1.length=a.length:=by rw [h1,List.length_set]; exact l0
  try rw [e0] at h1
  try dsimp only at h1
  have e1:Zac r1 k=_:=(congrArg (fun r=>Zac r k) h1).trans (ZaH (t:=Zag) hk0)
  try rw [e1]
  try simp (disch:=omega) only [Za3,Za3,Zai,Zar,Zah,Zao,Zat,Zav,Zas]
  repeat (refine ⟨by first | omega | exact ⟨by omega,by omega⟩ | exact ⟨by omega,by omega,by omega⟩,?_⟩)
  intro r2 h2
  have l2:r2.length=a.length:=by rw [h2,List.length_set]; exact l1
  try rw [e1] at h2
  try dsimp only at h2
  rw [h1,List.set_set] at h2
  have e2:Zac r2 k=_:=(congrArg (fun r=>Zac r k) h2).trans (ZaH (t:=Zag) hk0)
  try rw [e2]
  try simp (disch:=omega) only [Za3,Za3,Zai,Zar,Zah,Zao,Zat,Zav,Zas]
  repeat (refine ⟨by first | omega | exact ⟨by omega,by omega⟩ | exact ⟨by omega,by omega,by omega⟩,?_⟩)
  intro r3 h3
  have l3:r3.length=a.length:=by rw [h3,List.length_set]; exact l2
  try rw [e2] at h3
  try dsimp only at h3
  rw [h2,List.set_set] at h3
  have e3:Zac r3 k=_:=(congrArg (fun r=>Zac r k) h3).trans (ZaH (t:=Zag) hk0)
  try rw [e3]
  try simp (disch:=omega) only [Za3,Za3,Zai,Zar,Zah,Zao,Zat,Zav,Zas]
  repeat (refine ⟨by first | omega | exact ⟨by omega,by omega⟩ | exact ⟨by omega,by omega,by omega⟩,?_⟩)
  intro r4 h4
  have l4:r4.length=a.length:=by rw [h4,List.length_set]; exact l3
  try rw [e3] at h4
  try dsimp only at h4
  rw [h3,List.set_set] at h4
  have e4:Zac r4 k=_:=(congrArg (fun r=>Zac r k) h4).trans (ZaH (t:=Zag) hk0)
  try rw [e4]
  try simp (disch:=omega) only [Za3,Za3,Zai,Zar,Zah,Zao,Zat,Zav,Zas]
  repeat (refine ⟨by first | omega | exact ⟨by omega,by omega⟩ | exact ⟨by omega,by omega,by omega⟩,?_⟩)
  intro r5 h5
  have l5:r5.length=a.length:=by rw [h5,List.length_set]; exact l4
  try rw [e4] at h5
  try dsimp only at h5
  rw [h4,List.set_set] at h5
  have e5:Zac r5 k=_:=(congrArg (fun r=>Zac r k) h5).trans (ZaH (t:=Zag) hk0)
  try rw [e5]
  try simp (disch:=omega) only [Za3,Za3,Zai,Zar,Zah,Zao,Zat,Zav,Zas]
  repeat (refine ⟨by first | omega | exact ⟨by omega,by omega⟩ | exact ⟨by omega,by omega,by omega⟩,?_⟩)
  intro r6 h6
  have l6:r6.length=a.length:=by rw [h6,List.length_set]; exact l5
  try rw [e5] at h6
  try dsimp only at h6
  rw [h5,List.set_set] at h6
  have e6:Zac r6 k=_:=(congrArg (fun r=>Zac r k) h6).trans (ZaH (t:=Zag) hk0)
  try rw [e6]
  try simp (disch:=omega) only [Za3,Za3,Zai,Zar,Zah,Zao,Zat,Zav,Zas]
  refine ⟨k + 1,hlt,by clear e1 h1 l1 r1 e2 h2 l2 r2 e3 h3 l3 r3 e4 h4 l4 r4 e5 h5 l5 r5 e6 h6 l6 r6; omega,⟨by clear e1 h1 l1 r1 e2 h2 l2 r2 e3 h3 l3 r3 e4 h4 l4 r4 e5 h5 l5 r5 e6 h6 l6 r6; first | omega | (simp (disch:=omega) only [Za3,Za3,Zai,Zar,Zah,Zao,Zat,Zav,Zas]; omega),by clear e1 h1 l1 r1 e2 h2 l2 r2 e3 h3 l3 r3 e4 h4 l4 r4 e5 h5 l5 r5 e6 h6 l6 r6; first | omega | exact ZbL (by unfold maxLen; omega)⟩,Eq.mpr (Za9 (t:=Zag)) (h6.trans (ZhF hg ?_))⟩
  exact ZfJ
 ·have l0:(Zbu a m k).length=a.length:=Zdw a m k
  exact ZfM
def Zpz:Zdj Tryz.prog:=⟨127,[(.q false (.list Zag)),(.a (.v Zaz))],fun x=>Zfe x.1 x.2.1,fun x=>(ZcU x.1 x.2.1,x.2.1,()),fun x=>.c (.int .i64 (Zas x.1 x.2.1)),fun _=>[],fun x hx=>Zpy x.1 x.2.1 hx,Tryz.call127⟩
abbrev ZaB (a:ZaI) (m:Int):Int:=m + ((cntI a:Nat):Int)
abbrev Zcy (a:ZaI) (m:Int):ZaI:=mrkI a m
abbrev ZgH (a:ZaI) (m:Int):Prop:=0≤m∧m + cntI a≤4611686018427387904
theorem Zut (a:ZaI) (m:Int) (hpre:ZgH a m):Zet Tryz.prog 51 (Zea 0 [(.q true ZbJ),(.a (.v Zaz))] (a,m,())) (Zh2 0 [(.q true ZbJ),(.a (.v Zaz))] (a,m,())) (Zfm 0 [(.q true ZbJ),(.a (.v Zaz))] (Zcy a m,m,()) ++ []) (inpM 0 [(.q true ZbJ),(.a (.v Zaz))]) (.c (.int .i64 (ZaB a m))):=by
 refine Zdy (T:=⟨[],[],[],[ZwH,Zpz],none,fun _=>[],2,[0,1],[]⟩) (L:=L0) Tryz.func51 rfl rfl rfl (by kernel_rfl) (fun hwf hwm=>?_)
 refine Eq.mpr (β:=T5 (pt (ZhS a.1 m∧a.1=a.1∧True)∧∀ r0:List ZaM,r0=ZdS a.1 m→T4 (pt (Zfe a.2.1 (Zav a.1 m)∧a.2.1=a.2.1∧True)∧∀ r1:List Zax,r1=ZcU a.2.1 (Zav a.1 m)→T3 (pt ((r0=(Zcy a m).1∧r1=(Zcy a m).2.1∧True)∧cI (Zas a.2.1 (Zav a.1 m)) (ZaB a m)))))) (by kernel_rfl) ?_
 obtain ⟨hm0,hm1⟩:=hpre
 have hc0:cntI a=cntL a.1 + (cntL a.2.1 + (0)):=rfl
 simp only [SIA,eq_self]
 simp only [Za3,Zai,Zar,Zah,Zao,Zat,Zav,Zas,ZaB,ZcT,ZkX,Zc7,Zi1,ZdR,ZdS,ZcU,Zcy]
 exact Zzy
def Zuu:Zdj Tryz.prog:=⟨51,[(.q true ZbJ),(.a (.v Zaz))],fun x=>ZgH x.1 x.2.1,fun x=>(Zcy x.1 x.2.1,x.2.1,()),fun x=>.c (.int .i64 (ZaB x.1 x.2.1)),fun _=>[],fun x hx=>Zut x.1 x.2.1 hx,Tryz.call51⟩
abbrev Zap (a:List ZbX) (m:Int):Int:=m + ((cntL a:Nat):Int)
abbrev Zd3 (a:List ZbX) (m:Int):List ZbX:=markL a m
abbrev ZbN (a:List ZbX) (m:Int) (k:Nat):List ZbX:=Zv2 a m k
abbrev ZgI (a:List ZbX) (m:Int):Prop:=0≤m∧m + cntL a≤4611686018427387904
def Zuv (a:List ZbX) (m:Int):Nat→List AV→Mem→Zbj
 | 2,tm,M=>⟨Nat,fun y=>(Zcn (ZcC tm [(1, .c (.int .i64 (m + ((cntL (List.take y a):Nat):Int)))),(5, .c (.int .i64 ((y:Nat):Int)))]) 6 20,ZlQ M [(0, .row Zay (ZbN a m y) 0 0 none)]),fun y=>(y≤List.length a),fun y=>(List.length a - y)⟩
 | _,_,_=>⟨Unit,fun _=>([],[]),fun _=>False,fun _=>0⟩
theorem Zuw (a:List ZbX) (m:Int) (hpre:ZgI a m):Zet Tryz.prog 128 (Zea 0 [(.q false (.list Zay)),(.a (.v Zaz))] (a,m,())) (Zh2 0 [(.q false (.list Zay)),(.a (.v Zaz))] (a,m,())) (Zfm 0 [(.q false (.list Zay)),(.a (.v Zaz))] (Zd3 a m,m,()) ++ []) (inpM 0 [(.q false (.list Zay)),(.a (.v Zaz))]) (.c (.int .i64 (Zap a m))):=by
 refine Zdy (T:=⟨[],[],[],[],none,fun _=>[],1,[0],[]⟩) (L:=(Zuv a m)) Tryz.func128 rfl rfl rfl (by kernel_rfl) (fun hwf hwm=>?_)
 refine Eq.mpr (β:=T2 ((∃ q:Nat,(q≤a.length)∧lxs [.c (.row 0 0)] (vI m (m + (cntL (List.take q a):Int))∧lxs [.tp [], .tp [],ci 0] (vI 0 q∧TN 20 (lxs [.tp []] True)))∧pt (leB (.row Zay a 0 0 none) (.row Zay (ZbN a m q) 0 0 none)∧True))∧∀ y0:Nat,(y0≤a.length)→T4 (bif ltI y0 (List.length (ZbN a m y0)) then T3 (ix 2 y0 (List.length (ZbN a m y0))∧T2 (∀ r1:List ZbX,r1=List.set (ZbN a m y0) y0 ((m + (cntL (List.take y0 a):Int)),(ZaX (ZbN a m y0) y0).2)→T6 (ix 2 y0 r1.length∧T2 (∀ r2:List ZbX,r2=List.set r1 y0 ((ZaX r1 y0).1,(w64 ((m + (cntL (List.take y0 a):Int)) + 1)))→T6 (∃ y0' : Nat,(y0'≤a.length)∧(a.length - y0') < (a.length - y0)∧lxs [.c (.row 0 0)] (vI (w64 ((w64 ((m + (cntL (List.take y0 a):Int)) + 1)) + 1)) (m + (cntL (List.take y0' a):Int))∧lxs [.tp [], .tp [],ci 0] (vI (w64 ((y0:Int) + 1)) y0'∧TN 20 (lxs [.tp []] True)))∧pt (leB (.row Zay r2 0 0 none) (.row Zay (ZbN a m y0') 0 0 none)∧True)))))) else T2 (pt (((ZbN a m y0)=Zd3 a m∧True)∧cI (m + (cntL (List.take y0 a):Int)) (Zap a m)))))) (by kernel_rfl) ?_
 unfold T2 T3 T4 T6
 obtain ⟨hm0,hm1⟩:=hpre
 have hlm:a.length≤maxLen:=hwm.1.1
 unfold maxLen at hlm
 simp only [SIA,eq_self]
 refine ⟨⟨0,Nat.zero_le _,⟨by simp [cntL],rfl⟩,Eq.mpr (Za9 (t:=Zay)) (ZfI a m).symm⟩,fun k hk=>⟨fun hlt=>?_,fun hge=>?_⟩⟩
 ·have l0:(ZbN a m k).length=a.length:=Zdw a m k
  have hlt:k < a.length:=by omega
  have hg:a[k]?=some (ZaX a k):=Zau (t:=Zay) hlt
  have hc:cntL (List.take (k + 1) a)=cntL (List.take k a) + (1 + (1)):=ZcN hg
  have hcl:cntL (List.take (k + 1) a)≤cntL a:=Zel a (k + 1)
  have hg0:(ZbN a m k)[k]?=some (ZaX a k):=ZhE hg
  have hk0:k < (ZbN a m k).length:=by omega
  have e0:ZaX (ZbN a m k) k=ZaX a k:=Zcj (t:=Zay) hg0
  try simp (disch:=omega) only [Za3,Za3,Zai,Zar,Zah,Zao,Zat,Zav,Zas,ZaB,Zap]
  repeat (refine ⟨by first | omega | exact ⟨by omega,by omega⟩ | exact ⟨by omega,by omega,by omega⟩,?_⟩)
  intro r1 h1
  have l1:r1.length=a.length:=by rw [h1,List.length_set]; exact l0
  try rw [e0] at h1
  try dsimp only at h1
  have e1:ZaX r1 k=_:=(congrArg (fun r=>ZaX r k) h1).trans (ZaH (t:=Zay) hk0)
  try rw [e1]
  try simp (disch:=omega) only [Za3,Za3,Zai,Zar,Zah,Zao,Zat,Zav,Zas,ZaB,Zap]
  repeat (refine ⟨by first | omega | exact ⟨by omega,by omega⟩ | exact ⟨by omega,by omega,by omega⟩,?_⟩)
  intro r2 h2
  have l2:r2.length=a.length:=by rw [h2,List.length_set]; exact l1
  try rw [e1] at h2
  try dsimp only at h2
  rw [h1,List.set_set] at h2
  have e2:ZaX r2 k=_:=(congrArg (fun r=>ZaX r k) h2).trans (ZaH (t:=Zay) hk0)
  try rw [e2]
  try simp (disch:=omega) only [Za3,Za3,Zai,Zar,Zah,Zao,Zat,Zav,Zas,ZaB,Zap]
  refine ⟨k + 1,hlt,by clear e1 h1 l1 r1 e2 h2 l2 r2; omega,⟨by clear e1 h1 l1 r1 e2 h2 l2 r2; first | omega | (simp (disch:=omega) only [Za3,Za3,Zai,Zar,Zah,Zao,Zat,Zav,Zas,ZaB,Zap]; omega),by clear e1 h1 l1 r1 e2 h2 l2 r2; first | omega | exact ZbL (by unfold maxLen; omega)⟩,Eq.mpr (Za9 (t:=Zay)) (h2.trans (ZhF hg ?_))⟩
  exact ZfJ
 ·have l0:(ZbN a m k).length=a.length:=Zdw a m k
  exact ZfM
def Zux:Zdj Tryz.prog:=⟨128,[(.q false (.list Zay)),(.a (.v Zaz))],fun x=>ZgI x.1 x.2.1,fun x=>(Zd3 x.1 x.2.1,x.2.1,()),fun x=>.c (.int .i64 (Zap x.1 x.2.1)),fun _=>[],fun x hx=>Zuw x.1 x.2.1 hx,Tryz.call128⟩
abbrev Za1 (a:Zv5) (m:Int):Int:=m + ((cntI a:Nat):Int)
abbrev Zsh (a:Zv5) (m:Int):Zv5:=mrkI a m
abbrev ZaA (a:List ZaO) (m:Int):Int:=m + ((cntL a:Nat):Int)
abbrev Zd4 (a:List ZaO) (m:Int):List ZaO:=markL a m
abbrev ZbO (a:List ZaO) (m:Int) (k:Nat):List ZaO:=Zv2 a m k
abbrev ZgJ (a:List ZaO) (m:Int):Prop:=0≤m∧m + cntL a≤4611686018427387904
def Zuy (a:List ZaO) (m:Int):Nat→List AV→Mem→Zbj
 | 2,tm,M=>⟨Nat,fun y=>(Zcn (ZcC tm [(1, .c (.int .i64 (m + ((cntL (List.take y a):Nat):Int)))),(5, .c (.int .i64 ((y:Nat):Int)))]) 6 35,ZlQ M [(0, .row Zal (ZbO a m y) 0 0 none)]),fun y=>(y≤List.length a),fun y=>(List.length a - y)⟩
 | _,_,_=>⟨Unit,fun _=>([],[]),fun _=>False,fun _=>0⟩
theorem Zuz (a:List ZaO) (m:Int) (hpre:ZgJ a m):Zet Tryz.prog 131 (Zea 0 [(.q false (.list Zal)),(.a (.v Zaz))] (a,m,())) (Zh2 0 [(.q false (.list Zal)),(.a (.v Zaz))] (a,m,())) (Zfm 0 [(.q false (.list Zal)),(.a (.v Zaz))] (Zd4 a m,m,()) ++ []) (inpM 0 [(.q false (.list Zal)),(.a (.v Zaz))]) (.c (.int .i64 (ZaA a m))):=by
 refine Zdy (T:=⟨[Zco],[],[],[],none,fun _=>[],1,[0],[]⟩) (L:=(Zuy a m)) Tryz.func131 rfl rfl rfl (by kernel_rfl) (fun hwf hwm=>?_)
 refine Eq.mpr (β:=T2 ((∃ q:Nat,(q≤a.length)∧lxs [.c (.row 0 0)] (vI m (m + (cntL (List.take q a):Int))∧lxs [.tp [], .tp [],ci 0] (vI 0 q∧TN 35 (lxs [.tp []] True)))∧pt (leB (.row Zal a 0 0 none) (.row Zal (ZbO a m q) 0 0 none)∧True))∧∀ y0:Nat,(y0≤a.length)→T4 (bif ltI y0 (List.length (ZbO a m y0)) then T3 (ix 4 y0 (List.length (ZbO a m y0))∧T2 (∀ r1:List ZaO,r1=List.set (ZbO a m y0) y0 ((m + (cntL (List.take y0 a):Int)),(Zaf (ZbO a m y0) y0).2)→T6 (ix 4 y0 r1.length∧T2 (∀ r2:List ZaO,r2=List.set r1 y0 ((Zaf r1 y0).1,(w64 ((m + (cntL (List.take y0 a):Int)) + 1)),(Zaf r1 y0).2.2)→T6 (ix 4 y0 r2.length∧T2 (∀ r3:List ZaO,r3=List.set r2 y0 ((Zaf r2 y0).1,(Zaf r2 y0).2.1,(w64 ((w64 ((m + (cntL (List.take y0 a):Int)) + 1)) + 1)),(Zaf r2 y0).2.2.2)→T6 (pt (Zgt (w64 ((w64 ((w64 ((m + (cntL (List.take y0 a):Int)) + 1)) + 1)) + 1)))∧ix 4 y0 r3.length∧T2 (∀ r4:List ZaO,r4=List.set r3 y0 ((Zaf r3 y0).1,(Zaf r3 y0).2.1,(Zaf r3 y0).2.2.1,Zct (w64 ((w64 ((w64 ((m + (cntL (List.take y0 a):Int)) + 1)) + 1)) + 1)))→T6 (∃ y0' : Nat,(y0'≤a.length)∧(a.length - y0') < (a.length - y0)∧lxs [.c (.row 0 0)] (vI (w64 ((w64 ((w64 ((w64 ((m + (cntL (List.take y0 a):Int)) + 1)) + 1)) + 1)) + 1)) (m + (cntL (List.take y0' a):Int))∧lxs [.tp [], .tp [],ci 0] (vI (w64 ((y0:Int) + 1)) y0'∧TN 35 (lxs [.tp []] True)))∧pt (leB (.row Zal r4 0 0 none) (.row Zal (ZbO a m y0') 0 0 none)∧True)))))))))) else T2 (pt (((ZbO a m y0)=Zd4 a m∧True)∧cI (m + (cntL (List.take y0 a):Int)) (ZaA a m)))))) (by kernel_rfl) ?_
 unfold T2 T3 T4 T6
 obtain ⟨hm0,hm1⟩:=hpre
 have hlm:a.length≤maxLen:=hwm.1.1
 unfold maxLen at hlm
 simp only [SIA,eq_self]
 refine ⟨⟨0,Nat.zero_le _,⟨by simp [cntL],rfl⟩,Eq.mpr (Za9 (t:=Zal)) (ZfI a m).symm⟩,fun k hk=>⟨fun hlt=>?_,fun hge=>?_⟩⟩
 ·have l0:(ZbO a m k).length=a.length:=Zdw a m k
  have hlt:k < a.length:=by omega
  have hg:a[k]?=some (Zaf a k):=Zau (t:=Zal) hlt
  have hc:cntL (List.take (k + 1) a)=cntL (List.take k a) + (1 + (1 + (1 + (1)))):=ZcN hg
  have hcl:cntL (List.take (k + 1) a)≤cntL a:=Zel a (k + 1)
  have hg0:(ZbO a m k)[k]?=some (Zaf a k):=ZhE hg
  have hk0:k < (ZbO a m k).length:=by omega
  have e0:Zaf (ZbO a m k) k=Zaf a k:=Zcj (t:=Zal) hg0
  try simp (disch:=omega) only [Za3,Za3,Zai,Zar,Zah,Zao,Zat,Zav,Zas,ZaB,Zap,Za1,ZaA]
  repeat (refine ⟨by first | omega | exact ⟨by omega,by omega⟩ | exact ⟨by omega,by omega,by omega⟩,?_⟩)
  intro r1 h1
  have l1:r1.length=a.length:=by rw [h1,List.length_set]; exact l0
  try rw [e0] at h1
  try dsimp only at h1
  have e1:Zaf r1 k=_:=(congrArg (fun r=>Zaf r k) h1).trans (ZaH (t:=Zal) hk0)
  try rw [e1]
  try simp (disch:=omega) only [Za3,Za3,Zai,Zar,Zah,Zao,Zat,Zav,Zas,ZaB,Zap,Za1,ZaA]
  repeat (refine ⟨by first | omega | exact ⟨by omega,by omega⟩ | exact ⟨by omega,by omega,by omega⟩,?_⟩)
  intro r2 h2
  have l2:r2.length=a.length:=by rw [h2,List.length_set]; exact l1
  try rw [e1] at h2
  try dsimp only at h2
  rw [h1,List.set_set] at h2
  have e2:Zaf r2 k=_:=(congrArg (fun r=>Zaf r k) h2).trans (ZaH (t:=Zal) hk0)
  try rw [e2]
  try simp (disch:=omega) only [Za3,Za3,Zai,Zar,Zah,Zao,Zat,Zav,Zas,ZaB,Zap,Za1,ZaA]
  repeat (refine ⟨by first | omega | exact ⟨by omega,by omega⟩ | exact ⟨by omega,by omega,by omega⟩,?_⟩)
  intro r3 h3
  have l3:r3.length=a.length:=by rw [h3,List.length_set]; exact l2
  try rw [e2] at h3
  try dsimp only at h3
  rw [h2,List.set_set] at h3
  have e3:Zaf r3 k=_:=(congrArg (fun r=>Zaf r k) h3).trans (ZaH (t:=Zal) hk0)
  try rw [e3]
  try simp (disch:=omega) only [Za3,Za3,Zai,Zar,Zah,Zao,Zat,Zav,Zas,ZaB,Zap,Za1,ZaA]
  repeat (refine ⟨by first | omega | exact ⟨by omega,by omega⟩ | exact ⟨by omega,by omega,by omega⟩,?_⟩)
  intro r4 h4
  have l4:r4.length=a.length:=by rw [h4,List.length_set]; exact l3
  try rw [e3] at h4
  try dsimp only at h4
  rw [h3,List.set_set] at h4
  have e4:Zaf r4 k=_:=(congrArg (fun r=>Zaf r k) h4).trans (ZaH (t:=Zal) hk0)
  try rw [e4]
  try simp (disch:=omega) only [Za3,Za3,Zai,Zar,Zah,Zao,Zat,Zav,Zas,ZaB,Zap,Za1,ZaA]
  refine ⟨k + 1,hlt,by clear e1 h1 l1 r1 e2 h2 l2 r2 e3 h3 l3 r3 e4 h4 l4 r4; omega,⟨by clear e1 h1 l1 r1 e2 h2 l2 r2 e3 h3 l3 r3 e4 h4 l4 r4; first | omega | (simp (disch:=omega) only [Za3,Za3,Zai,Zar,Zah,Zao,Zat,Zav,Zas,ZaB,Zap,Za1,ZaA]; omega),by clear e1 h1 l1 r1 e2 h2 l2 r2 e3 h3 l3 r3 e4 h4 l4 r4; first | omega | exact ZbL (by unfold maxLen; omega)⟩,Eq.mpr (Za9 (t:=Zal)) (h4.trans (ZhF hg ?_))⟩
  exact ZfJ
 ·have l0:(ZbO a m k).length=a.length:=Zdw a m k
  exact ZfM
def ZuA:Zdj Tryz.prog:=⟨131,[(.q false (.list Zal)),(.a (.v Zaz))],fun x=>ZgJ x.1 x.2.1,fun x=>(Zd4 x.1 x.2.1,x.2.1,()),fun x=>.c (.int .i64 (ZaA x.1 x.2.1)),fun _=>[],fun x hx=>Zuz x.1 x.2.1 hx,Tryz.call131⟩
abbrev Zbc (a:ZbH) (m:Int):Int:=m + ((cntI a:Nat):Int)
abbrev ZpA (a:ZbH) (m:Int):ZbH:=mrkI a m
abbrev Za2 (a:Zad) (m:Int):Int:=m + ((cntI a:Nat):Int)
abbrev Znc (a:Zad) (m:Int):Zad:=mrkI a m
set_option maxRecDepth 100000
set_option maxHeartbeats 4000000
theorem ZwI (x:Zad) (K:Int) (hK:0≤K):mrk x K=(eqI (Int.tmod (K) 3) 0,(K + 1,(K + 1 + 1,(K + 1 + 1 + 1,(markL (x.2.2.2.2.1) (K + 1 + 1 + 1 + 1),((eqI (Int.tmod (K + 1 + 1 + 1 + 1 + ((cntL (x.2.2.2.2.1):Nat):Int)) 3) 0,markL (x.2.2.2.2.2.1.2) (K + 1 + 1 + 1 + 1 + ((cntL (x.2.2.2.2.1):Nat):Int) + 1)),(Zct (K + 1 + 1 + 1 + 1 + ((cntL (x.2.2.2.2.1):Nat):Int) + 1 + ((cntL (x.2.2.2.2.2.1.2):Nat):Int)),(Zct (K + 1 + 1 + 1 + 1 + ((cntL (x.2.2.2.2.1):Nat):Int) + 1 + ((cntL (x.2.2.2.2.2.1.2):Nat):Int) + 1),((markL (x.2.2.2.2.2.2.2.2.1.1) (K + 1 + 1 + 1 + 1 + ((cntL (x.2.2.2.2.1):Nat):Int) + 1 + ((cntL (x.2.2.2.2.2.1.2):Nat):Int) + 1 + 1),(eqI (Int.tmod (K + 1 + 1 + 1 + 1 + ((cntL (x.2.2.2.2.1):Nat):Int) + 1 + ((cntL (x.2.2.2.2.2.1.2):Nat):Int) + 1 + 1 + ((cntL (x.2.2.2.2.2.2.2.2.1.1):Nat):Int)) 3) 0,eqI (Int.tmod (K + 1 + 1 + 1 + 1 + ((cntL (x.2.2.2.2.1):Nat):Int) + 1 + ((cntL (x.2.2.2.2.2.1.2):Nat):Int) + 1 + 1 + ((cntL (x.2.2.2.2.2.2.2.2.1.1):Nat):Int) + 1) 3) 0)),((Zct (K + 1 + 1 + 1 + 1 + ((cntL (x.2.2.2.2.1):Nat):Int) + 1 + ((cntL (x.2.2.2.2.2.1.2):Nat):Int) + 1 + 1 + ((cntL (x.2.2.2.2.2.2.2.2.1.1):Nat):Int) + 1 + 1),eqI (Int.tmod (K + 1 + 1 + 1 + 1 + ((cntL (x.2.2.2.2.1):Nat):Int) + 1 + ((cntL (x.2.2.2.2.2.1.2):Nat):Int) + 1 + 1 + ((cntL (x.2.2.2.2.2.2.2.2.1.1):Nat):Int) + 1 + 1 + 1) 3) 0),((Zct (K + 1 + 1 + 1 + 1 + ((cntL (x.2.2.2.2.1):Nat):Int) + 1 + ((cntL (x.2.2.2.2.2.1.2):Nat):Int) + 1 + 1 + ((cntL (x.2.2.2.2.2.2.2.2.1.1):Nat):Int) + 1 + 1 + 1 + 1),Zct (K + 1 + 1 + 1 + 1 + ((cntL (x.2.2.2.2.1):Nat):Int) + 1 + ((cntL (x.2.2.2.2.2.1.2):Nat):Int) + 1 + 1 + ((cntL (x.2.2.2.2.2.2.2.2.1.1):Nat):Int) + 1 + 1 + 1 + 1 + 1)),K + 1 + 1 + 1 + 1 + ((cntL (x.2.2.2.2.1):Nat):Int) + 1 + ((cntL (x.2.2.2.2.2.1.2):Nat):Int) + 1 + 1 + ((cntL (x.2.2.2.2.2.2.2.2.1.1):Nat):Int) + 1 + 1 + 1 + 1 + 1 + 1))))))))))):=by
 have f0:(mrk x K).1=eqI (Int.tmod (K) 3) 0:=by first | rfl | (simp only [GXA]; first | done | omega | (congr 1; omega) | (rw [Zan (by omega),decide_eq_decide]; done) | (rw [Zan (by omega),decide_eq_decide]; omega))
 have f1:(mrk x K).2.1=K + 1:=by first | rfl | (simp only [GXA]; first | done | omega | (congr 1; omega) | (rw [Zan (by omega),decide_eq_decide]; done) | (rw [Zan (by omega),decide_eq_decide]; omega))
 have f2:(mrk x K).2.2.1=K + 1 + 1:=by first | rfl | (simp only [GXA]; first | done | omega | (congr 1; omega) | (rw [Zan (by omega),decide_eq_decide]; done) | (rw [Zan (by omega),decide_eq_decide]; omega))
 have f3:(mrk x K).2.2.2.1=K + 1 + 1 + 1:=by first | rfl | (simp only [GXA]; first | done | omega | (congr 1; omega) | (rw [Zan (by omega),decide_eq_decide]; done) | (rw [Zan (by omega),decide_eq_decide]; omega))
 have f4:(mrk x K).2.2.2.2.1=markL (x.2.2.2.2.1) (K + 1 + 1 + 1 + 1):=by first | rfl | (simp only [GXA]; first | done | omega | (congr 1; omega) | (rw [Zan (by omega),decide_eq_decide]; done) | (rw [Zan (by omega),decide_eq_decide]; omega))
 have f5:(mrk x K).2.2.2.2.2.1.1=eqI (Int.tmod (K + 1 + 1 + 1 + 1 + ((cntL (x.2.2.2.2.1):Nat):Int)) 3) 0:=by first | rfl | (simp only [GXA]; first | done | omega | (congr 1; omega) | (rw [Zan (by omega),decide_eq_decide]; done) | (rw [Zan (by omega),decide_eq_decide]; omega))
 have f6:(mrk x K).2.2.2.2.2.1.2=markL (x.2.2.2.2.2.1.2) (K + 1 + 1 + 1 + 1 + ((cntL (x.2.2.2.2.1):Nat):Int) + 1):=by first | rfl | (simp only [GXA]; first | done | omega | (congr 1; omega) | (rw [Zan (by omega),decide_eq_decide]; done) | (rw [Zan (by omega),decide_eq_decide]; omega))
 have f7:(mrk x K).2.2.2.2.2.2.1=Zct (K + 1 + 1 + 1 + 1 + ((cntL (x.2.2.2.2.1):Nat):Int) + 1 + ((cntL (x.2.2.2.2.2.1.2):Nat):Int)):=by first | rfl | (simp only [GXA]; first | done | omega | (congr 1; omega) | (rw [Zan (by omega),decide_eq_decide]; done) | (rw [Zan (by omega),decide_eq_decide]; omega))
 have f8:(mrk x K).2.2.2.2.2.2.2.1=Zct (K + 1 + 1 + 1 + 1 + ((cntL (x.2.2.2.2.1):Nat):Int) + 1 + ((cntL (x.2.2.2.2.2.1.2):Nat):Int) + 1):=by first | rfl | (simp only [GXA]; first | done | omega | (congr 1; omega) | (rw [Zan (by omega),decide_eq_decide]; done) | (rw [Zan (by omega),decide_eq_decide]; omega))
 have f9:(mrk x K).2.2.2.2.2.2.2.2.1.1=markL (x.2.2.2.2.2.2.2.2.1.1) (K + 1 + 1 + 1 + 1 + ((cntL (x.2.2.2.2.1):Nat):Int) + 1 + ((cntL (x.2.2.2.2.2.1.2):Nat):Int) + 1 + 1):=by first | rfl | (simp only [GXA]; first | done | omega | (congr 1; omega) | (rw [Zan (by omega),decide_eq_decide]; done) | (rw [Zan (by omega),decide_eq_decide]; omega))
 have f10:(mrk x K).2.2.2.2.2.2.2.2.1.2.1=eqI (Int.tmod (K + 1 + 1 + 1 + 1 + ((cntL (x.2.2.2.2.1):Nat):Int) + 1 + ((cntL (x.2.2.2.2.2.1.2):Nat):Int) + 1 + 1 + ((cntL (x.2.2.2.2.2.2.2.2.1.1):Nat):Int)) 3) 0:=by first | rfl | (simp only [GXA]; first | done | omega | (congr 1; omega) | (rw [Zan (by omega),decide_eq_decide]; done) | (rw [Zan (by omega),decide_eq_decide]; omega))
 have f11:(mrk x K).2.2.2.2.2.2.2.2.1.2.2=eqI (Int.tmod (K + 1 + 1 + 1 + 1 + ((cntL (x.2.2.2.2.1):Nat):Int) + 1 + ((cntL (x.2.2.2.2.2.1.2):Nat):Int) + 1 + 1 + ((cntL (x.2.2.2.2.2.2.2.2.1.1):Nat):Int) + 1) 3) 0:=by first | rfl | (simp only [GXA]; first | done | omega | (congr 1; omega) | (rw [Zan (by omega),decide_eq_decide]; done) | (rw [Zan (by omega),decide_eq_decide]; omega))
 have f12:(mrk x K).2.2.2.2.2.2.2.2.2.1.1=Zct (K + 1 + 1 + 1 + 1 + ((cntL (x.2.2.2.2.1):Nat):Int) + 1 + ((cntL (x.2.2.2.2.2.1.2):Nat):Int) + 1 + 1 + ((cntL (x.2.2.2.2.2.2.2.2.1.1):Nat):Int) + 1 + 1):=by first | rfl | (simp only [GXA]; first | done | omega | (congr 1; omega) | (rw [Zan (by omega),decide_eq_decide]; done) | (rw [Zan (by omega),decide_eq_decide]; omega))
 have f13:(mrk x K).2.2.2.2.2.2.2.2.2.1.2=eqI (Int.tmod (K + 1 + 1 + 1 + 1 + ((cntL (x.2.2.2.2.1):Nat):Int) + 1 + ((cntL (x.2.2.2.2.2.1.2):Nat):Int) + 1 + 1 + ((cntL (x.2.2.2.2.2.2.2.2.1.1):Nat):Int) + 1 + 1 + 1) 3) 0:=by first | rfl | (simp only [GXA]; first | done | omega | (congr 1; omega) | (rw [Zan (by omega),decide_eq_decide]; done) | (rw [Zan (by omega),decide_eq_decide]; omega))
 have f14:(mrk x K).2.2.2.2.2.2.2.2.2.2.1.1=Zct (K + 1 + 1 + 1 + 1 + ((cntL (x.2.2.2.2.1):Nat):Int) + 1 + ((cntL (x.2.2.2.2.2.1.2):Nat):Int) + 1 + 1 + ((cntL (x.2.2.2.2.2.2.2.2.1.1):Nat):Int) + 1 + 1 + 1 + 1):=by first | rfl | (simp only [GXA]; first | done | omega | (congr 1; omega) | (rw [Zan (by omega),decide_eq_decide]; done) | (rw [Zan (by omega),decide_eq_decide]; omega))
 have f15:(mrk x K).2.2.2.2.2.2.2.2.2.2.1.2=Zct (K + 1 + 1 + 1 + 1 + ((cntL (x.2.2.2.2.1):Nat):Int) + 1 + ((cntL (x.2.2.2.2.2.1.2):Nat):Int) + 1 + 1 + ((cntL (x.2.2.2.2.2.2.2.2.1.1):Nat):Int) + 1 + 1 + 1 + 1 + 1):=by first | rfl | (simp only [GXA]; first | done | omega | (congr 1; omega) | (rw [Zan (by omega),decide_eq_decide]; done) | (rw [Zan (by omega),decide_eq_decide]; omega))
 have f16:(mrk x K).2.2.2.2.2.2.2.2.2.2.2=K + 1 + 1 + 1 + 1 + ((cntL (x.2.2.2.2.1):Nat):Int) + 1 + ((cntL (x.2.2.2.2.2.1.2):Nat):Int) + 1 + 1 + ((cntL (x.2.2.2.2.2.2.2.2.1.1):Nat):Int) + 1 + 1 + 1 + 1 + 1 + 1:=by first | rfl | (simp only [GXA]; first | done | omega | (congr 1; omega) | (rw [Zan (by omega),decide_eq_decide]; done) | (rw [Zan (by omega),decide_eq_decide]; omega))
 exact (Prod.ext f0 (Prod.ext f1 (Prod.ext f2 (Prod.ext f3 (Prod.ext f4 (Prod.ext (Prod.ext f5 f6) (Prod.ext f7 (Prod.ext f8 (Prod.ext (Prod.ext f9 (Prod.ext f10 f11)) (Prod.ext (Prod.ext f12 f13) (Prod.ext (Prod.ext f14 f15) f16)))))))))))
abbrev ZaQ (a:List Zad) (m:Int):Int:=m + ((cntL a:Nat):Int)
abbrev Zc9 (a:List Zad) (m:Int):List Zad:=markL a m
abbrev Zbm (a:List Zad) (m:Int) (k:Nat):List Zad:=Zv2 a m k
abbrev ZeN (a:List Zad) (m:Int):Prop:=0≤m∧m + cntL a≤4611686018427387904
def Zor (a:List Zad) (m:Int):Nat→List AV→Mem→Zbj
 | 2,tm,M=>⟨Nat,fun y=>(Zcn (ZcC tm [(1, .c (.int .i64 (m + ((cntL (List.take y a):Nat):Int)))),(5, .c (.int .i64 ((y:Nat):Int)))]) 6 150,ZlQ M [(0, .row Zae (Zbm a m y) 0 0 none)]),fun y=>(y≤List.length a),fun y=>(List.length a - y)⟩
 | _,_,_=>⟨Unit,fun _=>([],[]),fun _=>False,fun _=>0⟩
theorem Zos (a:List Zad) (m:Int) (hpre:ZeN a m):Zet Tryz.prog 52 (Zea 0 [(.q false (.list Zae)),(.a (.v Zaz))] (a,m,())) (Zh2 0 [(.q false (.list Zae)),(.a (.v Zaz))] (a,m,())) (Zfm 0 [(.q false (.list Zae)),(.a (.v Zaz))] (Zc9 a m,m,()) ++ []) (inpM 0 [(.q false (.list Zae)),(.a (.v Zaz))]) (.c (.int .i64 (ZaQ a m))):=by
 refine Zdy (T:=⟨[Zco],[],[],[Zux,Zsg,ZuA],none,fun _=>[],1,[0],[]⟩) (L:=(Zor a m)) Tryz.func52 rfl rfl rfl (by kernel_rfl) (fun hwf hwm=>?_)
 refine Eq.mpr (β:=T2 ((∃ q:Nat,(q≤a.length)∧lxs [.c (.row 0 0)] (vI m (m + (cntL (List.take q a):Int))∧lxs [.tp [], .tp [],ci 0] (vI 0 q∧TN 150 (lxs [.tp []] True)))∧pt (leB (.row Zae a 0 0 none) (.row Zae (Zbm a m q) 0 0 none)∧True))∧∀ y0:Nat,(y0≤a.length)→T4 (bif ltI y0 (List.length (Zbm a m y0)) then T3 ((3:Int) ≠ 0∧True∧ix 17 y0 (List.length (Zbm a m y0))∧T2 (∀ r1:List Zad,r1=List.set (Zbm a m y0) y0 ((eqI (Int.tmod (m + (cntL (List.take y0 a):Int)) 3) 0),(Zaa (Zbm a m y0) y0).2)→T6 (ix 17 y0 r1.length∧T2 (∀ r2:List Zad,r2=List.set r1 y0 ((Zaa r1 y0).1,(w64 ((m + (cntL (List.take y0 a):Int)) + 1)),(Zaa r1 y0).2.2)→T6 (ix 17 y0 r2.length∧T2 (∀ r3:List Zad,r3=List.set r2 y0 ((Zaa r2 y0).1,(Zaa r2 y0).2.1,(w64 ((w64 ((m + (cntL (List.take y0 a):Int)) + 1)) + 1)),(Zaa r2 y0).2.2.2)→T6 (ix 17 y0 r3.length∧T2 (∀ r4:List Zad,r4=List.set r3 y0 ((Zaa r3 y0).1,(Zaa r3 y0).2.1,(Zaa r3 y0).2.2.1,(w64 ((w64 ((w64 ((m + (cntL (List.take y0 a):Int)) + 1)) + 1)) + 1)),(Zaa r3 y0).2.2.2.2)→T5 (ix 17 y0 r4.length∧T4 (pt (ZgI (Zaa r4 y0).2.2.2.2.1 (w64 ((w64 ((w64 ((w64 ((m + (cntL (List.take y0 a):Int)) + 1)) + 1)) + 1)) + 1))∧(Zaa r4 y0).2.2.2.2.1=(Zaa r4 y0).2.2.2.2.1∧True)∧∀ r5:List Zad,r5=List.set r4 y0 ((Zaa r4 y0).1,(Zaa r4 y0).2.1,(Zaa r4 y0).2.2.1,(Zaa r4 y0).2.2.2.1,Zd3 (Zaa r4 y0).2.2.2.2.1 (w64 ((w64 ((w64 ((w64 ((m + (cntL (List.take y0 a):Int)) + 1)) + 1)) + 1)) + 1)),(Zaa r4 y0).2.2.2.2.2)→T4 ((3:Int) ≠ 0∧True∧ix 17 y0 r5.length∧T3 (∀ r6:List Zad,r6=List.set r5 y0 ((Zaa r5 y0).1,(Zaa r5 y0).2.1,(Zaa r5 y0).2.2.1,(Zaa r5 y0).2.2.2.1,(Zaa r5 y0).2.2.2.2.1,((eqI (Int.tmod (Zap (Zaa r4 y0).2.2.2.2.1 (w64 ((w64 ((w64 ((w64 ((m + (cntL (List.take y0 a):Int)) + 1)) + 1)) + 1)) + 1))) 3) 0),(Zaa r5 y0).2.2.2.2.2.1.2),(Zaa r5 y0).2.2.2.2.2.2)→T5 (ix 17 y0 r6.length∧T4 (pt (ZfU (Zaa r6 y0).2.2.2.2.2.1.2 (w64 (Zap (Zaa r4 y0).2.2.2.2.1 (w64 ((w64 ((w64 ((w64 ((m + (cntL (List.take y0 a):Int)) + 1)) + 1)) + 1)) + 1)) + 1))∧(Zaa r6 y0).2.2.2.2.2.1.2=(Zaa r6 y0).2.2.2.2.2.1.2∧True)∧∀ r7:List Zad,r7=List.set r6 y0 ((Zaa r6 y0).1,(Zaa r6 y0).2.1,(Zaa r6 y0).2.2.1,(Zaa r6 y0).2.2.2.1,(Zaa r6 y0).2.2.2.2.1,((Zaa r6 y0).2.2.2.2.2.1.1,Zc7 (Zaa r6 y0).2.2.2.2.2.1.2 (w64 (Zap (Zaa r4 y0).2.2.2.2.1 (w64 ((w64 ((w64 ((w64 ((m + (cntL (List.take y0 a):Int)) + 1)) + 1)) + 1)) + 1)) + 1))),(Zaa r6 y0).2.2.2.2.2.2)→T4 (pt (Zgt (Zah (Zaa r6 y0).2.2.2.2.2.1.2 (w64 (Zap (Zaa r4 y0).2.2.2.2.1 (w64 ((w64 ((w64 ((w64 ((m + (cntL (List.take y0 a):Int)) + 1)) + 1)) + 1)) + 1)) + 1))))∧ix 17 y0 r7.length∧T2 (∀ r8:List Zad,r8=List.set r7 y0 ((Zaa r7 y0).1,(Zaa r7 y0).2.1,(Zaa r7 y0).2.2.1,(Zaa r7 y0).2.2.2.1,(Zaa r7 y0).2.2.2.2.1,(Zaa r7 y0).2.2.2.2.2.1,Zct (Zah (Zaa r6 y0).2.2.2.2.2.1.2 (w64 (Zap (Zaa r4 y0).2.2.2.2.1 (w64 ((w64 ((w64 ((w64 ((m + (cntL (List.take y0 a):Int)) + 1)) + 1)) + 1)) + 1)) + 1))),(Zaa r7 y0).2.2.2.2.2.2.2)→T6 (pt (Zgt (w64 (Zah (Zaa r6 y0).2.2.2.2.2.1.2 (w64 (Zap (Zaa r4 y0).2.2.2.2.1 (w64 ((w64 ((w64 ((w64 ((m + (cntL (List.take y0 a):Int)) + 1)) + 1)) + 1)) + 1)) + 1)) + 1)))∧ix 17 y0 r8.length∧T2 (∀ r9:List Zad,r9=List.set r8 y0 ((Zaa r8 y0).1,(Zaa r8 y0).2.1,(Zaa r8 y0).2.2.1,(Zaa r8 y0).2.2.2.1,(Zaa r8 y0).2.2.2.2.1,(Zaa r8 y0).2.2.2.2.2.1,(Zaa r8 y0).2.2.2.2.2.2.1,Zct (w64 (Zah (Zaa r6 y0).2.2.2.2.2.1.2 (w64 (Zap (Zaa r4 y0).2.2.2.2.1 (w64 ((w64 ((w64 ((w64 ((m + (cntL (List.take y0 a):Int)) + 1)) + 1)) + 1)) + 1)) + 1)) + 1)),(Zaa r8 y0).2.2.2.2.2.2.2.2)→T5 (ix 17 y0 r9.length∧T4 (pt (ZgJ (Zaa r9 y0).2.2.2.2.2.2.2.2.1.1 (w64 ((w64 (Zah (Zaa r6 y0).2.2.2.2.2.1.2 (w64 (Zap (Zaa r4 y0).2.2.2.2.1 (w64 ((w64 ((w64 ((w64 ((m + (cntL (List.take y0 a):Int)) + 1)) + 1)) + 1)) + 1)) + 1)) + 1)) + 1))∧(Zaa r9 y0).2.2.2.2.2.2.2.2.1.1=(Zaa r9 y0).2.2.2.2.2.2.2.2.1.1∧True)∧∀ r10:List Zad,r10=List.set r9 y0 ((Zaa r9 y0).1,(Zaa r9 y0).2.1,(Zaa r9 y0).2.2.1,(Zaa r9 y0).2.2.2.1,(Zaa r9 y0).2.2.2.2.1,(Zaa r9 y0).2.2.2.2.2.1,(Zaa r9 y0).2.2.2.2.2.2.1,(Zaa r9 y0).2.2.2.2.2.2.2.1,(Zd4 (Zaa r9 y0).2.2.2.2.2.2.2.2.1.1 (w64 ((w64 (Zah (Zaa r6 y0).2.2.2.2.2.1.2 (w64 (Zap (Zaa r4 y0).2.2.2.2.1 (w64 ((w64 ((w64 ((w64 ((m + (cntL (List.take y0 a):Int)) + 1)) + 1)) + 1)) + 1)) + 1)) + 1)) + 1)),(Zaa r9 y0).2.2.2.2.2.2.2.2.1.2),(Zaa r9 y0).2.2.2.2.2.2.2.2.2)→T4 ((3:Int) ≠ 0∧True∧ix 17 y0 r10.length∧T3 (∀ r11:List Zad,r11=List.set r10 y0 ((Zaa r10 y0).1,(Zaa r10 y0).2.1,(Zaa r10 y0).2.2.1,(Zaa r10 y0).2.2.2.1,(Zaa r10 y0).2.2.2.2.1,(Zaa r10 y0).2.2.2.2.2.1,(Zaa r10 y0).2.2.2.2.2.2.1,(Zaa r10 y0).2.2.2.2.2.2.2.1,((Zaa r10 y0).2.2.2.2.2.2.2.2.1.1,(eqI (Int.tmod (ZaA (Zaa r9 y0).2.2.2.2.2.2.2.2.1.1 (w64 ((w64 (Zah (Zaa r6 y0).2.2.2.2.2.1.2 (w64 (Zap (Zaa r4 y0).2.2.2.2.1 (w64 ((w64 ((w64 ((w64 ((m + (cntL (List.take y0 a):Int)) + 1)) + 1)) + 1)) + 1)) + 1)) + 1)) + 1))) 3) 0),(Zaa r10 y0).2.2.2.2.2.2.2.2.1.2.2),(Zaa r10 y0).2.2.2.2.2.2.2.2.2)→T6 ((3:Int) ≠ 0∧True∧ix 17 y0 r11.length∧T3 (∀ r12:List Zad,r12=List.set r11 y0 ((Zaa r11 y0).1,(Zaa r11 y0).2.1,(Zaa r11 y0).2.2.1,(Zaa r11 y0).2.2.2.1,(Zaa r11 y0).2.2.2.2.1,(Zaa r11 y0).2.2.2.2.2.1,(Zaa r11 y0).2.2.2.2.2.2.1,(Zaa r11 y0).2.2.2.2.2.2.2.1,((Zaa r11 y0).2.2.2.2.2.2.2.2.1.1,(Zaa r11 y0).2.2.2.2.2.2.2.2.1.2.1,(eqI (Int.tmod (w64 (ZaA (Zaa r9 y0).2.2.2.2.2.2.2.2.1.1 (w64 ((w64 (Zah (Zaa r6 y0).2.2.2.2.2.1.2 (w64 (Zap (Zaa r4 y0).2.2.2.2.1 (w64 ((w64 ((w64 ((w64 ((m + (cntL (List.take y0 a):Int)) + 1)) + 1)) + 1)) + 1)) + 1)) + 1)) + 1)) + 1)) 3) 0)),(Zaa r11 y0).2.2.2.2.2.2.2.2.2)→T6 (pt (Zgt (w64 ((w64 (ZaA (Zaa r9 y0).2.2.2.2.2.2.2.2.1.1 (w64 ((w64 (Zah (Zaa r6 y0).2.2.2.2.2.1.2 (w64 (Zap (Zaa r4 y0).2.2.2.2.1 (w64 ((w64 ((w64 ((w64 ((m + (cntL (List.take y0 a):Int)) + 1)) + 1)) + 1)) + 1)) + 1)) + 1)) + 1)) + 1)) + 1)))∧ix 17 y0 r12.length∧T3 (∀ r13:List Zad,r13=List.set r12 y0 ((Zaa r12 y0).1,(Zaa r12 y0).2.1,(Zaa r12 y0).2.2.1,(Zaa r12 y0).2.2.2.1,(Zaa r12 y0).2.2.2.2.1,(Zaa r12 y0).2.2.2.2.2.1,(Zaa r12 y0).2.2.2.2.2.2.1,(Zaa r12 y0).2.2.2.2.2.2.2.1,(Zaa r12 y0).2.2.2.2.2.2.2.2.1,(Zct (w64 ((w64 (ZaA (Zaa r9 y0).2.2.2.2.2.2.2.2.1.1 (w64 ((w64 (Zah (Zaa r6 y0).2.2.2.2.2.1.2 (w64 (Zap (Zaa r4 y0).2.2.2.2.1 (w64 ((w64 ((w64 ((w64 ((m + (cntL (List.take y0 a):Int)) + 1)) + 1)) + 1)) + 1)) + 1)) + 1)) + 1)) + 1)) + 1)),(Zaa r12 y0).2.2.2.2.2.2.2.2.2.1.2),(Zaa r12 y0).2.2.2.2.2.2.2.2.2.2)→T6 ((3:Int) ≠ 0∧True∧ix 17 y0 r13.length∧T3 (∀ r14:List Zad,r14=List.set r13 y0 ((Zaa r13 y0).1,(Zaa r13 y0).2.1,(Zaa r13 y0).2.2.1,(Zaa r13 y0).2.2.2.1,(Zaa r13 y0).2.2.2.2.1,(Zaa r13 y0).2.2.2.2.2.1,(Zaa r13 y0).2.2.2.2.2.2.1,(Zaa r13 y0).2.2.2.2.2.2.2.1,(Zaa r13 y0).2.2.2.2.2.2.2.2.1,((Zaa r13 y0).2.2.2.2.2.2.2.2.2.1.1,(eqI (Int.tmod (w64 ((w64 ((w64 (ZaA (Zaa r9 y0).2.2.2.2.2.2.2.2.1.1 (w64 ((w64 (Zah (Zaa r6 y0).2.2.2.2.2.1.2 (w64 (Zap (Zaa r4 y0).2.2.2.2.1 (w64 ((w64 ((w64 ((w64 ((m + (cntL (List.take y0 a):Int)) + 1)) + 1)) + 1)) + 1)) + 1)) + 1)) + 1)) + 1)) + 1)) + 1)) 3) 0)),(Zaa r13 y0).2.2.2.2.2.2.2.2.2.2)→T6 (pt (Zgt (w64 ((w64 ((w64 ((w64 (ZaA (Zaa r9 y0).2.2.2.2.2.2.2.2.1.1 (w64 ((w64 (Zah (Zaa r6 y0).2.2.2.2.2.1.2 (w64 (Zap (Zaa r4 y0).2.2.2.2.1 (w64 ((w64 ((w64 ((w64 ((m + (cntL (List.take y0 a):Int)) + 1)) + 1)) + 1)) + 1)) + 1)) + 1)) + 1)) + 1)) + 1)) + 1)) + 1)))∧ix 17 y0 r14.length∧T3 (∀ r15:List Zad,r15=List.set r14 y0 ((Zaa r14 y0).1,(Zaa r14 y0).2.1,(Zaa r14 y0).2.2.1,(Zaa r14 y0).2.2.2.1,(Zaa r14 y0).2.2.2.2.1,(Zaa r14 y0).2.2.2.2.2.1,(Zaa r14 y0).2.2.2.2.2.2.1,(Zaa r14 y0).2.2.2.2.2.2.2.1,(Zaa r14 y0).2.2.2.2.2.2.2.2.1,(Zaa r14 y0).2.2.2.2.2.2.2.2.2.1,(Zct (w64 ((w64 ((w64 ((w64 (ZaA (Zaa r9 y0).2.2.2.2.2.2.2.2.1.1 (w64 ((w64 (Zah (Zaa r6 y0).2.2.2.2.2.1.2 (w64 (Zap (Zaa r4 y0).2.2.2.2.1 (w64 ((w64 ((w64 ((w64 ((m + (cntL (List.take y0 a):Int)) + 1)) + 1)) + 1)) + 1)) + 1)) + 1)) + 1)) + 1)) + 1)) + 1)) + 1)),(Zaa r14 y0).2.2.2.2.2.2.2.2.2.2.1.2),(Zaa r14 y0).2.2.2.2.2.2.2.2.2.2.2)→T6 (pt (Zgt (w64 ((w64 ((w64 ((w64 ((w64 (ZaA (Zaa r9 y0).2.2.2.2.2.2.2.2.1.1 (w64 ((w64 (Zah (Zaa r6 y0).2.2.2.2.2.1.2 (w64 (Zap (Zaa r4 y0).2.2.2.2.1 (w64 ((w64 ((w64 ((w64 ((m + (cntL (List.take y0 a):Int)) + 1)) + 1)) + 1)) + 1)) + 1)) + 1)) + 1)) + 1)) + 1)) + 1)) + 1)) + 1)))∧ix 17 y0 r15.length∧T3 (∀ r16:List Zad,r16=List.set r15 y0 ((Zaa r15 y0).1,(Zaa r15 y0).2.1,(Zaa r15 y0).2.2.1,(Zaa r15 y0).2.2.2.1,(Zaa r15 y0).2.2.2.2.1,(Zaa r15 y0).2.2.2.2.2.1,(Zaa r15 y0).2.2.2.2.2.2.1,(Zaa r15 y0).2.2.2.2.2.2.2.1,(Zaa r15 y0).2.2.2.2.2.2.2.2.1,(Zaa r15 y0).2.2.2.2.2.2.2.2.2.1,((Zaa r15 y0).2.2.2.2.2.2.2.2.2.2.1.1,Zct (w64 ((w64 ((w64 ((w64 ((w64 (ZaA (Zaa r9 y0).2.2.2.2.2.2.2.2.1.1 (w64 ((w64 (Zah (Zaa r6 y0).2.2.2.2.2.1.2 (w64 (Zap (Zaa r4 y0).2.2.2.2.1 (w64 ((w64 ((w64 ((w64 ((m + (cntL (List.take y0 a):Int)) + 1)) + 1)) + 1)) + 1)) + 1)) + 1)) + 1)) + 1)) + 1)) + 1)) + 1)) + 1))),(Zaa r15 y0).2.2.2.2.2.2.2.2.2.2.2)→T6 (ix 17 y0 r16.length∧T2 (∀ r17:List Zad,r17=List.set r16 y0 ((Zaa r16 y0).1,(Zaa r16 y0).2.1,(Zaa r16 y0).2.2.1,(Zaa r16 y0).2.2.2.1,(Zaa r16 y0).2.2.2.2.1,(Zaa r16 y0).2.2.2.2.2.1,(Zaa r16 y0).2.2.2.2.2.2.1,(Zaa r16 y0).2.2.2.2.2.2.2.1,(Zaa r16 y0).2.2.2.2.2.2.2.2.1,(Zaa r16 y0).2.2.2.2.2.2.2.2.2.1,(Zaa r16 y0).2.2.2.2.2.2.2.2.2.2.1,(w64 ((w64 ((w64 ((w64 ((w64 ((w64 (ZaA (Zaa r9 y0).2.2.2.2.2.2.2.2.1.1 (w64 ((w64 (Zah (Zaa r6 y0).2.2.2.2.2.1.2 (w64 (Zap (Zaa r4 y0).2.2.2.2.1 (w64 ((w64 ((w64 ((w64 ((m + (cntL (List.take y0 a):Int)) + 1)) + 1)) + 1)) + 1)) + 1)) + 1)) + 1)) + 1)) + 1)) + 1)) + 1)) + 1)) + 1)))→T6 (∃ y0' : Nat,(y0'≤a.length)∧(a.length - y0') < (a.length - y0)∧lxs [.c (.row 0 0)] (vI (w64 ((w64 ((w64 ((w64 ((w64 ((w64 ((w64 (ZaA (Zaa r9 y0).2.2.2.2.2.2.2.2.1.1 (w64 ((w64 (Zah (Zaa r6 y0).2.2.2.2.2.1.2 (w64 (Zap (Zaa r4 y0).2.2.2.2.1 (w64 ((w64 ((w64 ((w64 ((m + (cntL (List.take y0 a):Int)) + 1)) + 1)) + 1)) + 1)) + 1)) + 1)) + 1)) + 1)) + 1)) + 1)) + 1)) + 1)) + 1)) + 1)) (m + (cntL (List.take y0' a):Int))∧lxs [.tp [], .tp [],ci 0] (vI (w64 ((y0:Int) + 1)) y0'∧TN 150 (lxs [.tp []] True)))∧pt (leB (.row Zae r17 0 0 none) (.row Zae (Zbm a m y0') 0 0 none)∧True)))))))))))))))))))))))))))))))))))) else T2 (pt (((Zbm a m y0)=Zc9 a m∧True)∧cI (m + (cntL (List.take y0 a):Int)) (ZaQ a m)))))) (by kernel_rfl) ?_
 unfold T2 T3 T4 T5 T6
 obtain ⟨hm0,hm1⟩:=hpre
 have hlm:a.length≤maxLen:=hwm.1.1
 unfold maxLen at hlm
 simp only [SIA,eq_self]
 refine ⟨⟨0,Nat.zero_le _,⟨by simp [cntL],rfl⟩,Eq.mpr (Za9 (t:=Zae)) (ZfI a m).symm⟩,fun k hk=>⟨fun hlt=>?_,fun hge=>?_⟩⟩
 ·have l0:(Zbm a m k).length=a.length:=Zdw a m k
  have hlt:k < a.length:=by omega
  have hg:a[k]?=some (Zaa a k):=Zau (t:=Zae) hlt
  have hc:cntL (List.take (k + 1) a)=cntL (List.take k a) + (1 + (1 + (1 + (1 + (cntL (Zaa a k).2.2.2.2.1 + (1 + (cntL (Zaa a k).2.2.2.2.2.1.2) + (1 + (1 + (cntL (Zaa a k).2.2.2.2.2.2.2.2.1.1 + (1 + (1)) + (1 + (1) + (1 + (1) + (1)))))))))))):=ZcN hg
  have hcl:cntL (List.take (k + 1) a)≤cntL a:=Zel a (k + 1)
  have hg0:(Zbm a m k)[k]?=some (Zaa a k):=ZhE hg
  have hk0:k < (Zbm a m k).length:=by omega
  have e0:Zaa (Zbm a m k) k=Zaa a k:=Zcj (t:=Zae) hg0
  try simp (disch:=omega) only [Za3,Za3,Zai,Zar,Zah,Zao,Zat,Zav,Zas,ZaB,Zap,Za1,ZaA,Zbc,Za2,ZaQ]
  repeat (refine ⟨by first | omega | exact ⟨by omega,by omega⟩ | exact ⟨by omega,by omega,by omega⟩,?_⟩)
  intro r1 h1
  have l1:r1.length=a.length:=by rw [h1,List.length_set]; exact l0
  try rw [e0] at h1
  try dsimp only at h1
  have e1:Zaa r1 k=_:=(congrArg (fun r=>Zaa r k) h1).trans (ZaH (t:=Zae) hk0)
  try rw [e1]
  try simp (disch:=omega) only [Za3,Za3,Zai,Zar,Zah,Zao,Zat,Zav,Zas,ZaB,Zap,Za1,ZaA,Zbc,Za2,ZaQ]
  repeat (refine ⟨by first | omega | exact ⟨by omega,by omega⟩ | exact ⟨by omega,by omega,by omega⟩,?_⟩)
  intro r2 h2
  have l2:r2.length=a.length:=by rw [h2,List.length_set]; exact l1
  try rw [e1] at h2
  try dsimp only at h2
  rw [h1,List.set_set] at h2
  have e2:Zaa r2 k=_:=(congrArg (fun r=>Zaa r k) h2).trans (ZaH (t:=Zae) hk0)
  try rw [e2]
  try simp (disch:=omega) only [Za3,Za3,Zai,Zar,Zah,Zao,Zat,Zav,Zas,ZaB,Zap,Za1,ZaA,Zbc,Za2,ZaQ]
  repeat (refine ⟨by first | omega | exact ⟨by omega,by omega⟩ | exact ⟨by omega,by omega,by omega⟩,?_⟩)
  intro r3 h3
  have l3:r3.length=a.length:=by rw [h3,List.length_set]; exact l2
  try rw [e2] at h3
  try dsimp only at h3
  rw [h2,List.set_set] at h3
  have e3:Zaa r3 k=_:=(congrArg (fun r=>Zaa r k) h3).trans (ZaH (t:=Zae) hk0)
  try rw [e3]
  try simp (disch:=omega) only [Za3,Za3,Zai,Zar,Zah,Zao,Zat,Zav,Zas,ZaB,Zap,Za1,ZaA,Zbc,Za2,ZaQ]
  repeat (refine ⟨by first | omega | exact ⟨by omega,by omega⟩ | exact ⟨by omega,by omega,by omega⟩,?_⟩)
  intro r4 h4
  have l4:r4.length=a.length:=by rw [h4,List.length_set]; exact l3
  try rw [e3] at h4
  try dsimp only at h4
  rw [h3,List.set_set] at h4
  have e4:Zaa r4 k=_:=(congrArg (fun r=>Zaa r k) h4).trans (ZaH (t:=Zae) hk0)
  try rw [e4]
  try simp (disch:=omega) only [Za3,Za3,Zai,Zar,Zah,Zao,Zat,Zav,Zas,ZaB,Zap,Za1,ZaA,Zbc,Za2,ZaQ]
  repeat (refine ⟨by first | omega | exact ⟨by omega,by omega⟩ | exact ⟨by omega,by omega,by omega⟩,?_⟩)
  intro r5 h5
  have l5:r5.length=a.length:=by rw [h5,List.length_set]; exact l4
  try rw [e4] at h5
  try dsimp only at h5
  rw [h4,List.set_set] at h5
  have e5:Zaa r5 k=_:=(congrArg (fun r=>Zaa r k) h5).trans (ZaH (t:=Zae) hk0)
  try rw [e5]
  try simp (disch:=omega) only [Za3,Za3,Zai,Zar,Zah,Zao,Zat,Zav,Zas,ZaB,Zap,Za1,ZaA,Zbc,Za2,ZaQ]
  repeat (refine ⟨by first | omega | exact ⟨by omega,by omega⟩ | exact ⟨by omega,by omega,by omega⟩,?_⟩)
  intro r6 h6
  have l6:r6.length=a.length:=by rw [h6,List.length_set]; exact l5
  try rw [e5] at h6
  try dsimp only at h6
  rw [h5,List.set_set] at h6
  have e6:Zaa r6 k=_:=(congrArg (fun r=>Zaa r k) h6).trans (ZaH (t:=Zae) hk0)
  try rw [e6]
  try simp (disch:=omega) only [Za3,Za3,Zai,Zar,Zah,Zao,Zat,Zav,Zas,ZaB,Zap,Za1,ZaA,Zbc,Za2,ZaQ]
  repeat (refine ⟨by first | omega | exact ⟨by omega,by omega⟩ | exact ⟨by omega,by omega,by omega⟩,?_⟩)
  intro r7 h7
  have l7:r7.length=a.length:=by rw [h7,List.length_set]; exact l6
  try rw [e6] at h7
  try dsimp only at h7
  rw [h6,List.set_set] at h7
  have e7:Zaa r7 k=_:=(congrArg (fun r=>Zaa r k) h7).trans (ZaH (t:=Zae) hk0)
  try rw [e7]
  try simp (disch:=omega) only [Za3,Za3,Zai,Zar,Zah,Zao,Zat,Zav,Zas,ZaB,Zap,Za1,ZaA,Zbc,Za2,ZaQ]
  repeat (refine ⟨by first | omega | exact ⟨by omega,by omega⟩ | exact ⟨by omega,by omega,by omega⟩,?_⟩)
  intro r8 h8
  have l8:r8.length=a.length:=by rw [h8,List.length_set]; exact l7
  try rw [e7] at h8
  try dsimp only at h8
  rw [h7,List.set_set] at h8
  have e8:Zaa r8 k=_:=(congrArg (fun r=>Zaa r k) h8).trans (ZaH (t:=Zae) hk0)
  try rw [e8]
  try simp (disch:=omega) only [Za3,Za3,Zai,Zar,Zah,Zao,Zat,Zav,Zas,ZaB,Zap,Za1,ZaA,Zbc,Za2,ZaQ]
  repeat (refine ⟨by first | omega | exact ⟨by omega,by omega⟩ | exact ⟨by omega,by omega,by omega⟩,?_⟩)
  intro r9 h9
  have l9:r9.length=a.length:=by rw [h9,List.length_set]; exact l8
  try rw [e8] at h9
  try dsimp only at h9
  rw [h8,List.set_set] at h9
  have e9:Zaa r9 k=_:=(congrArg (fun r=>Zaa r k) h9).trans (ZaH (t:=Zae) hk0)
  try rw [e9]
  try simp (disch:=omega) only [Za3,Za3,Zai,Zar,Zah,Zao,Zat,Zav,Zas,ZaB,Zap,Za1,ZaA,Zbc,Za2,ZaQ]
  repeat (refine ⟨by first | omega | exact ⟨by omega,by omega⟩ | exact ⟨by omega,by omega,by omega⟩,?_⟩)
  intro r10 h10
  have l10:r10.length=a.length:=by rw [h10,List.length_set]; exact l9
  try rw [e9] at h10
  try dsimp only at h10
  rw [h9,List.set_set] at h10
  have e10:Zaa r10 k=_:=(congrArg (fun r=>Zaa r k) h10).trans (ZaH (t:=Zae) hk0)
  try rw [e10]
  try simp (disch:=omega) only [Za3,Za3,Zai,Zar,Zah,Zao,Zat,Zav,Zas,ZaB,Zap,Za1,ZaA,Zbc,Za2,ZaQ]
  repeat (refine ⟨by first | omega | exact ⟨by omega,by omega⟩ | exact ⟨by omega,by omega,by omega⟩,?_⟩)
  intro r11 h11
  have l11:r11.length=a.length:=by rw [h11,List.length_set]; exact l10
  try rw [e10] at h11
  try dsimp only at h11
  rw [h10,List.set_set] at h11
  have e11:Zaa r11 k=_:=(congrArg (fun r=>Zaa r k) h11).trans (ZaH (t:=Zae) hk0)
  try rw [e11]
  try simp (disch:=omega) only [Za3,Za3,Zai,Zar,Zah,Zao,Zat,Zav,Zas,ZaB,Zap,Za1,ZaA,Zbc,Za2,ZaQ]
  repeat (refine ⟨by first | omega | exact ⟨by omega,by omega⟩ | exact ⟨by omega,by omega,by omega⟩,?_⟩)
  intro r12 h12
  have l12:r12.length=a.length:=by rw [h12,List.length_set]; exact l11
  try rw [e11] at h12
  try dsimp only at h12
  rw [h11,List.set_set] at h12
  have e12:Zaa r12 k=_:=(congrArg (fun r=>Zaa r k) h12).trans (ZaH (t:=Zae) hk0)
  try rw [e12]
  try simp (disch:=omega) only [Za3,Za3,Zai,Zar,Zah,Zao,Zat,Zav,Zas,ZaB,Zap,Za1,ZaA,Zbc,Za2,ZaQ]
  repeat (refine ⟨by first | omega | exact ⟨by omega,by omega⟩ | exact ⟨by omega,by omega,by omega⟩,?_⟩)
  intro r13 h13
  have l13:r13.length=a.length:=by rw [h13,List.length_set]; exact l12
  try rw [e12] at h13
  try dsimp only at h13
  rw [h12,List.set_set] at h13
  have e13:Zaa r13 k=_:=(congrArg (fun r=>Zaa r k) h13).trans (ZaH (t:=Zae) hk0)
  try rw [e13]
  try simp (disch:=omega) only [Za3,Za3,Zai,Zar,Zah,Zao,Zat,Zav,Zas,ZaB,Zap,Za1,ZaA,Zbc,Za2,ZaQ]
  repeat (refine ⟨by first | omega | exact ⟨by omega,by omega⟩ | exact ⟨by omega,by omega,by omega⟩,?_⟩)
  intro r14 h14
  have l14:r14.length=a.length:=by rw [h14,List.length_set]; exact l13
  try rw [e13] at h14
  try dsimp only at h14
  rw [h13,List.set_set] at h14
  have e14:Zaa r14 k=_:=(congrArg (fun r=>Zaa r k) h14).trans (ZaH (t:=Zae) hk0)
  try rw [e14]
  try simp (disch:=omega) only [Za3,Za3,Zai,Zar,Zah,Zao,Zat,Zav,Zas,ZaB,Zap,Za1,ZaA,Zbc,Za2,ZaQ]
  repeat (refine ⟨by first | omega | exact ⟨by omega,by omega⟩ | exact ⟨by omega,by omega,by omega⟩,?_⟩)
  intro r15 h15
  have l15:r15.length=a.length:=by rw [h15,List.length_set]; exact l14
  try rw [e14] at h15
  try dsimp only at h15
  rw [h14,List.set_set] at h15
  have e15:Zaa r15 k=_:=(congrArg (fun r=>Zaa r k) h15).trans (ZaH (t:=Zae) hk0)
  try rw [e15]
  try simp (disch:=omega) only [Za3,Za3,Zai,Zar,Zah,Zao,Zat,Zav,Zas,ZaB,Zap,Za1,ZaA,Zbc,Za2,ZaQ]
  repeat (refine ⟨by first | omega | exact ⟨by omega,by omega⟩ | exact ⟨by omega,by omega,by omega⟩,?_⟩)
  intro r16 h16
  have l16:r16.length=a.length:=by rw [h16,List.length_set]; exact l15
  try rw [e15] at h16
  try dsimp only at h16
  rw [h15,List.set_set] at h16
  have e16:Zaa r16 k=_:=(congrArg (fun r=>Zaa r k) h16).trans (ZaH (t:=Zae) hk0)
  try rw [e16]
  try simp (disch:=omega) only [Za3,Za3,Zai,Zar,Zah,Zao,Zat,Zav,Zas,ZaB,Zap,Za1,ZaA,Zbc,Za2,ZaQ]
  repeat (refine ⟨by first | omega | exact ⟨by omega,by omega⟩ | exact ⟨by omega,by omega,by omega⟩,?_⟩)
  intro r17 h17
  have l17:r17.length=a.length:=by rw [h17,List.length_set]; exact l16
  try rw [e16] at h17
  try dsimp only at h17
  rw [h16,List.set_set] at h17
  have e17:Zaa r17 k=_:=(congrArg (fun r=>Zaa r k) h17).trans (ZaH (t:=Zae) hk0)
  try rw [e17]
  try simp (disch:=omega) only [Za3,Za3,Zai,Zar,Zah,Zao,Zat,Zav,Zas,ZaB,Zap,Za1,ZaA,Zbc,Za2,ZaQ]
  refine ⟨k + 1,hlt,by clear e1 h1 l1 r1 e2 h2 l2 r2 e3 h3 l3 r3 e4 h4 l4 r4 e5 h5 l5 r5 e6 h6 l6 r6 e7 h7 l7 r7 e8 h8 l8 r8 e9 h9 l9 r9 e10 h10 l10 r10 e11 h11 l11 r11 e12 h12 l12 r12 e13 h13 l13 r13 e14 h14 l14 r14 e15 h15 l15 r15 e16 h16 l16 r16 e17 h17 l17 r17; omega,⟨by clear e1 h1 l1 r1 e2 h2 l2 r2 e3 h3 l3 r3 e4 h4 l4 r4 e5 h5 l5 r5 e6 h6 l6 r6 e7 h7 l7 r7 e8 h8 l8 r8 e9 h9 l9 r9 e10 h10 l10 r10 e11 h11 l11 r11 e12 h12 l12 r12 e13 h13 l13 r13 e14 h14 l14 r14 e15 h15 l15 r15 e16 h16 l16 r16 e17 h17 l17 r17; first | omega | (simp (disch:=omega) only [Za3,Za3,Zai,Zar,Zah,Zao,Zat,Zav,Zas,ZaB,Zap,Za1,ZaA,Zbc,Za2,ZaQ]; omega),by clear e1 h1 l1 r1 e2 h2 l2 r2 e3 h3 l3 r3 e4 h4 l4 r4 e5 h5 l5 r5 e6 h6 l6 r6 e7 h7 l7 r7 e8 h8 l8 r8 e9 h9 l9 r9 e10 h10 l10 r10 e11 h11 l11 r11 e12 h12 l12 r12 e13 h13 l13 r13 e14 h14 l14 r14 e15 h15 l15 r15 e16 h16 l16 r16 e17 h17 l17 r17; first | omega | exact ZbL (by unfold maxLen; omega)⟩,Eq.mpr (Za9 (t:=Zae)) (h17.trans (ZhF hg ?_))⟩
  exact ZfJ
 ·have l0:(Zbm a m k).length=a.length:=Zdw a m k
  exact ZfM
def Zot:Zdj Tryz.prog:=⟨52,[(.q false (.list Zae)),(.a (.v Zaz))],fun x=>ZeN x.1 x.2.1,fun x=>(Zc9 x.1 x.2.1,x.2.1,()),fun x=>.c (.int .i64 (ZaQ x.1 x.2.1)),fun _=>[],fun x hx=>Zos x.1 x.2.1 hx,Tryz.call52⟩
abbrev Zbi (a:ZaE) (m:Int):Int:=m + ((cntI a:Nat):Int)
abbrev ZaS (a:ZaE) (m:Int):ZaE:=mrkI a m
abbrev Zcm (a:ZaE) (m:Int):Prop:=0≤m∧m + cntI a≤4611686018427387904
theorem Zsi (a:ZaE) (m:Int) (hpre:Zcm a m):Zet Tryz.prog 16 (Zea 0 [(.q true ZaV),(.a (.v Zaz))] (a,m,())) (Zh2 0 [(.q true ZaV),(.a (.v Zaz))] (a,m,())) (Zfm 0 [(.q true ZaV),(.a (.v Zaz))] (ZaS a m,m,()) ++ []) (inpM 0 [(.q true ZaV),(.a (.v Zaz))]) (.c (.int .i64 (Zbi a m))):=by
 refine Zdy (T:=⟨[],[],[],[Zuu,Zot],none,fun _=>[],3,[0,1,2],[]⟩) (L:=L0) Tryz.func16 rfl rfl rfl (by kernel_rfl) (fun hwf hwm=>?_)
 refine Eq.mpr (β:=T5 (pt (ZgH a.1 m∧(a.1.1=a.1.1∧a.1.2.1=a.1.2.1∧cI a.1.2.2 a.1.2.2∧True)∧True)∧∀ r0:List ZaM,r0=(Zcy a.1 m).1→∀ r1:List Zax,r1=(Zcy a.1 m).2.1→T4 (pt (ZeN a.2 (ZaB a.1 m)∧a.2=a.2∧True)∧∀ r2:List Zad,r2=Zc9 a.2 (ZaB a.1 m)→T3 (pt ((r0=(ZaS a m).1.1∧r1=(ZaS a m).1.2.1∧r2=(ZaS a m).2∧True)∧cI (ZaQ a.2 (ZaB a.1 m)) (Zbi a m)))))) (by kernel_rfl) ?_
 unfold T3 T4 T5
 obtain ⟨hm0,hm1⟩:=hpre
 have hc0:cntI a=cntL a.1.1 + (cntL a.1.2.1 + (0)) + (cntL a.2):=rfl
 have hc1:cntI a.1=cntL a.1.1 + (cntL a.1.2.1 + (0)):=rfl
 simp only [SIA,eq_self]
 simp only [Za3,Zai,Zar,Zah,Zao,Zat,Zav,Zas,ZaB,Zap,Za1,ZaA,Zbc,Za2,ZaQ,Zbi,ZcT,ZkX,Zc7,Zi1,ZdR,ZdS,ZcU,Zcy,Zd3,Zsh,Zd4,ZpA,Znc,Zc9,ZaS]
 exact Zzy
def ZhT:Zdj Tryz.prog:=⟨16,[(.q true ZaV),(.a (.v Zaz))],fun x=>Zcm x.1 x.2.1,fun x=>(ZaS x.1 x.2.1,x.2.1,()),fun x=>.c (.int .i64 (Zbi x.1 x.2.1)),fun _=>[],fun x hx=>Zsi x.1 x.2.1 hx,Tryz.call16⟩
end Go.Proofs.YtkompmgleojmlaaGreat
