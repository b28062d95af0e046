import Derived.Test.YtafhbjjcpncfnaaGreatIMarkB
set_option linter.unusedSimpArgs false
set_option linter.unusedVariables false
set_option maxRecDepth 100000
set_option maxHeartbeats 4000000
namespace Go.Proofs.YtafhbjjcpncfnaaGreat
open Go.ChangeShapes Go.WideShapes Go.ChangeAt Go.RowKit Go.Joins Go.Deep
open GoRep (rep bulk)
open GoMark (mrk cnt mrkI cntI)
abbrev Zai (a:List ByteArray) (m:Int):Int:=m + ((cntL a:Nat):Int)
abbrev ZcM (a:List ByteArray) (m:Int):List ByteArray:=markL a m
abbrev ZbB (a:List ByteArray) (m:Int) (k:Nat):List ByteArray:=Ztt a m k
abbrev Zfe (a:List ByteArray) (m:Int):Prop:=0≤m∧m + cntL a≤4611686018427387904
def Zpm (a:List ByteArray) (m:Int):Nat→List AV→Mem→Zbd
 | 2,tm,M=>⟨Nat,fun y=>(Zcf (Zct tm [(1, .c (.int .i64 (m + ((cntL (List.take y a):Nat):Int)))),(5, .c (.int .i64 ((y:Nat):Int)))]) 6 13,Zky M [(0, .row Za1 (ZbB a m y) 0 0 none)]),fun y=>(y≤List.length a),fun y=>(List.length a - y)⟩
 | _,_,_=>⟨Unit,fun _=>([],[]),fun _=>False,fun _=>0⟩
theorem Zpn (a:List ByteArray) (m:Int) (hpre:Zfe a m):Zep Tryz.prog 138 (Zd7 0 [(.q false (.list Za1)),(.a (.v Zax))] (a,m,())) (Zh3 0 [(.q false (.list Za1)),(.a (.v Zax))] (a,m,())) (Zfj 0 [(.q false (.list Za1)),(.a (.v Zax))] (ZcM a m,m,()) ++ []) (inpM 0 [(.q false (.list Za1)),(.a (.v Zax))]) (.c (.int .i64 (Zai a m))):=by
 refine Zdu (T:=⟨[Zck],[],[],[],none,fun _=>[],1,[0],[]⟩) (L:=(Zpm a m)) Tryz.func138 rfl rfl rfl (by kernel_rfl) (fun hwf hwm=>?_)
 refine Eq.mpr (β:=T2 ((∃ q:Nat,(q≤a.length)∧lxs [.c (.row 0 0)] (vI m (m + (cntL (List.take q a):Int))∧lxs [.tp [], .tp [],ci 0] (vI 0 q∧TN 13 (lxs [.tp []] True)))∧pt (leB (.row Za1 a 0 0 none) (.row Za1 (ZbB a m q) 0 0 none)∧True))∧∀ y0:Nat,(y0≤a.length)→T4 (bif ltI y0 (List.length (ZbB a m y0)) then T3 (pt (Zgu (m + (cntL (List.take y0 a):Int)))∧ix 1 y0 (List.length (ZbB a m y0))∧True∧∀ r1:List ByteArray,r1=List.set (ZbB a m y0) y0 (Zcs (m + (cntL (List.take y0 a):Int)))→T6 (∃ y0' : Nat,(y0'≤a.length)∧(a.length - y0') < (a.length - y0)∧lxs [.c (.row 0 0)] (vI (w64 ((m + (cntL (List.take y0 a):Int)) + 1)) (m + (cntL (List.take y0' a):Int))∧lxs [.tp [], .tp [],ci 0] (vI (w64 ((y0:Int) + 1)) y0'∧TN 13 (lxs [.tp []] True)))∧pt (leB (.row Za1 r1 0 0 none) (.row Za1 (ZbB a m y0') 0 0 none)∧True))) else T2 (pt (((ZbB a m y0)=ZcM a m∧True)∧cI (m + (cntL (List.take y0 a):Int)) (Zai a m)))))) (by kernel_rfl) ?_
 unfold T2 T3 T4 T6
 obtain ⟨hm0,hm1⟩:=hpre
 have hlm:a.length≤maxLen:=hwm.1.1
 unfold maxLen at hlm
 simp only [SIA,eq_self]
 refine ⟨⟨0,Nat.zero_le _,⟨by simp [cntL],rfl⟩,Eq.mpr (Za6 (t:=Za1)) (ZeV a m).symm⟩,fun k hk=>⟨fun hlt=>?_,fun hge=>?_⟩⟩
 ·have l0:(ZbB a m k).length=a.length:=ZcX a m k
  have hlt:k < a.length:=by omega
  have hg:a[k]?=some (ZaF a k):=Zat (t:=Za1) hlt
  have hc:cntL (List.take (k + 1) a)=cntL (List.take k a) + (1):=Zco hg
  have hcl:cntL (List.take (k + 1) a)≤cntL a:=ZdW a (k + 1)
  have hg0:(ZbB a m k)[k]?=some (ZaF a k):=Zgs hg
  have hk0:k < (ZbB a m k).length:=by omega
  have e0:ZaF (ZbB a m k) k=ZaF a k:=Zcb (t:=Za1) hg0
  try simp (disch:=omega) only [ZaX,ZaX,Zai]
  repeat (refine ⟨by first | omega | exact ⟨by omega,by omega⟩ | exact ⟨by omega,by omega,by omega⟩,?_⟩)
  intro r1 h1
  have l1:r1.length=a.length:=by rw [h1,List.length_set]; exact l0
  try rw [e0] at h1
  try dsimp only at h1
  have e1:ZaF r1 k=_:=(congrArg (fun r=>ZaF r k) h1).trans (ZaH (t:=Za1) hk0)
  try rw [e1]
  try simp (disch:=omega) only [ZaX,ZaX,Zai]
  refine ⟨k + 1,hlt,by clear e1 h1 l1 r1; omega,⟨by clear e1 h1 l1 r1; first | omega | (simp (disch:=omega) only [ZaX,ZaX,Zai]; omega),by clear e1 h1 l1 r1; first | omega | exact Zbs (by unfold maxLen; omega)⟩,Eq.mpr (Za6 (t:=Za1)) (h1.trans (Zgt hg ?_))⟩
  exact ZeW
 ·have l0:(ZbB a m k).length=a.length:=ZcX a m k
  exact ZeZ
def Zpo:Zdb Tryz.prog:=⟨138,[(.q false (.list Za1)),(.a (.v Zax))],fun x=>Zfe x.1 x.2.1,fun x=>(ZcM x.1 x.2.1,x.2.1,()),fun x=>.c (.int .i64 (Zai x.1 x.2.1)),fun _=>[],fun x hx=>Zpn x.1 x.2.1 hx,Tryz.call138⟩
abbrev Zam (a:List Int) (m:Int):Int:=m + ((cntL a:Nat):Int)
abbrev Zdn (a:List Int) (m:Int):List Int:=markL a m
abbrev Zb6 (a:List Int) (m:Int) (k:Nat):List Int:=Ztt a m k
abbrev ZhR (a:List Int) (m:Int):Prop:=0≤m∧m + cntL a≤4611686018427387904
def Zwu (a:List Int) (m:Int):Nat→List AV→Mem→Zbd
 | 2,tm,M=>⟨Nat,fun y=>(Zcf (Zct tm [(1, .c (.int .i64 (m + ((cntL (List.take y a):Nat):Int)))),(5, .c (.int .i64 ((y:Nat):Int)))]) 6 12,Zky M [(0, .row Zax (Zb6 a m y) 0 0 none)]),fun y=>(y≤List.length a),fun y=>(List.length a - y)⟩
 | _,_,_=>⟨Unit,fun _=>([],[]),fun _=>False,fun _=>0⟩
theorem Zwv (a:List Int) (m:Int) (hpre:ZhR a m):Zep Tryz.prog 11 (Zd7 0 [(.q false (.list Zax)),(.a (.v Zax))] (a,m,())) (Zh3 0 [(.q false (.list Zax)),(.a (.v Zax))] (a,m,())) (Zfj 0 [(.q false (.list Zax)),(.a (.v Zax))] (Zdn a m,m,()) ++ []) (inpM 0 [(.q false (.list Zax)),(.a (.v Zax))]) (.c (.int .i64 (Zam a m))):=by
 refine Zdu (T:=⟨[],[],[],[],none,fun _=>[],1,[0],[]⟩) (L:=(Zwu a m)) Tryz.func11 rfl rfl rfl (by kernel_rfl) (fun hwf hwm=>?_)
 refine Eq.mpr (β:=T2 ((∃ q:Nat,(q≤a.length)∧lxs [.c (.row 0 0)] (vI m (m + (cntL (List.take q a):Int))∧lxs [.tp [], .tp [],ci 0] (vI 0 q∧TN 12 (lxs [.tp []] True)))∧pt (leB (.row Zax a 0 0 none) (.row Zax (Zb6 a m q) 0 0 none)∧True))∧∀ y0:Nat,(y0≤a.length)→T4 (bif ltI y0 (List.length (Zb6 a m y0)) then T3 (ix 1 y0 (List.length (Zb6 a m y0))∧True∧∀ r1:List Int,r1=List.set (Zb6 a m y0) y0 (m + (cntL (List.take y0 a):Int))→T6 (∃ y0' : Nat,(y0'≤a.length)∧(a.length - y0') < (a.length - y0)∧lxs [.c (.row 0 0)] (vI (w64 ((m + (cntL (List.take y0 a):Int)) + 1)) (m + (cntL (List.take y0' a):Int))∧lxs [.tp [], .tp [],ci 0] (vI (w64 ((y0:Int) + 1)) y0'∧TN 12 (lxs [.tp []] True)))∧pt (leB (.row Zax r1 0 0 none) (.row Zax (Zb6 a m y0') 0 0 none)∧True))) else T2 (pt (((Zb6 a m y0)=Zdn a m∧True)∧cI (m + (cntL (List.take y0 a):Int)) (Zam a m)))))) (by kernel_rfl) ?_
 unfold T2 T3 T4 T6
 obtain ⟨hm0,hm1⟩:=hpre
 have hlm:a.length≤maxLen:=hwm.1.1
 unfold maxLen at hlm
 simp only [SIA,eq_self]
 refine ⟨⟨0,Nat.zero_le _,⟨by simp [cntL],rfl⟩,Eq.mpr (Za6 (t:=Zax)) (ZeV a m).symm⟩,fun k hk=>⟨fun hlt=>?_,fun hge=>?_⟩⟩
 ·have l0:(Zb6 a m k).length=a.length:=ZcX a m k
  have hlt:k < a.length:=by omega
  have hg:a[k]?=some (Zar a k):=Zat (t:=Zax) hlt
  have hc:cntL (List.take (k + 1) a)=cntL (List.take k a) + (1):=Zco hg
  have hcl:cntL (List.take (k + 1) a)≤cntL a:=ZdW a (k + 1)
  have hg0:(Zb6 a m k)[k]?=some (Zar a k):=Zgs hg
  have hk0:k < (Zb6 a m k).length:=by omega
  have e0:Zar (Zb6 a m k) k=Zar a k:=Zcb (t:=Zax) hg0
  try simp (disch:=omega) only [ZaX,ZaX,Zai,Zam]
  repeat (refine ⟨by first | omega | exact ⟨by omega,by omega⟩ | exact ⟨by omega,by omega,by omega⟩,?_⟩)
  intro r1 h1
  have l1:r1.length=a.length:=by rw [h1,List.length_set]; exact l0
  try rw [e0] at h1
  try dsimp only at h1
  have e1:Zar r1 k=_:=(congrArg (fun r=>Zar r k) h1).trans (ZaH (t:=Zax) hk0)
  try rw [e1]
  try simp (disch:=omega) only [ZaX,ZaX,Zai,Zam]
  refine ⟨k + 1,hlt,by clear e1 h1 l1 r1; omega,⟨by clear e1 h1 l1 r1; first | omega | (simp (disch:=omega) only [ZaX,ZaX,Zai,Zam]; omega),by clear e1 h1 l1 r1; first | omega | exact Zbs (by unfold maxLen; omega)⟩,Eq.mpr (Za6 (t:=Zax)) (h1.trans (Zgt hg ?_))⟩
  exact ZeW
 ·have l0:(Zb6 a m k).length=a.length:=ZcX a m k
  exact ZeZ
def Zww:Zdb Tryz.prog:=⟨11,[(.q false (.list Zax)),(.a (.v Zax))],fun x=>ZhR x.1 x.2.1,fun x=>(Zdn x.1 x.2.1,x.2.1,()),fun x=>.c (.int .i64 (Zam x.1 x.2.1)),fun _=>[],fun x hx=>Zwv x.1 x.2.1 hx,Tryz.call11⟩
abbrev Zah (a:List ZaW) (m:Int):Int:=m + ((cntL a:Nat):Int)
abbrev Zc4 (a:List ZaW) (m:Int):List ZaW:=markL a m
abbrev ZbC (a:List ZaW) (m:Int) (k:Nat):List ZaW:=Ztt a m k
abbrev ZfS (a:List ZaW) (m:Int):Prop:=0≤m∧m + cntL a≤4611686018427387904
def Zr5 (a:List ZaW) (m:Int):Nat→List AV→Mem→Zbd
 | 2,tm,M=>⟨Nat,fun y=>(Zcf (Zct tm [(1, .c (.int .i64 (m + ((cntL (List.take y a):Nat):Int)))),(5, .c (.int .i64 ((y:Nat):Int)))]) 6 27,Zky M [(0, .row Zak (ZbC a m y) 0 0 none)]),fun y=>(y≤List.length a),fun y=>(List.length a - y)⟩
 | _,_,_=>⟨Unit,fun _=>([],[]),fun _=>False,fun _=>0⟩
theorem Zr6 (a:List ZaW) (m:Int) (hpre:ZfS a m):Zep Tryz.prog 57 (Zd7 0 [(.q false (.list Zak)),(.a (.v Zax))] (a,m,())) (Zh3 0 [(.q false (.list Zak)),(.a (.v Zax))] (a,m,())) (Zfj 0 [(.q false (.list Zak)),(.a (.v Zax))] (Zc4 a m,m,()) ++ []) (inpM 0 [(.q false (.list Zak)),(.a (.v Zax))]) (.c (.int .i64 (Zah a m))):=by
 refine Zdu (T:=⟨[],[],[],[Zpo],none,fun _=>[],1,[0],[]⟩) (L:=(Zr5 a m)) Tryz.func57 rfl rfl rfl (by kernel_rfl) (fun hwf hwm=>?_)
 refine Eq.mpr (β:=T2 ((∃ q:Nat,(q≤a.length)∧lxs [.c (.row 0 0)] (vI m (m + (cntL (List.take q a):Int))∧lxs [.tp [], .tp [],ci 0] (vI 0 q∧TN 27 (lxs [.tp []] True)))∧pt (leB (.row Zak a 0 0 none) (.row Zak (ZbC a m q) 0 0 none)∧True))∧∀ y0:Nat,(y0≤a.length)→T4 (bif ltI y0 (List.length (ZbC a m y0)) then T3 (ix 3 y0 (List.length (ZbC a m y0))∧T2 (∀ r1:List ZaW,r1=List.set (ZbC a m y0) y0 ((m + (cntL (List.take y0 a):Int)),(Zas (ZbC a m y0) y0).2)→T5 (ix 3 y0 r1.length∧T3 (pt (Zfe (Zas r1 y0).2.1 (w64 ((m + (cntL (List.take y0 a):Int)) + 1))∧(Zas r1 y0).2.1=(Zas r1 y0).2.1∧True)∧∀ r2:List ZaW,r2=List.set r1 y0 ((Zas r1 y0).1,ZcM (Zas r1 y0).2.1 (w64 ((m + (cntL (List.take y0 a):Int)) + 1)),(Zas r1 y0).2.2)→T4 (ix 3 y0 r2.length∧T2 (∀ r3:List ZaW,r3=List.set r2 y0 ((Zas r2 y0).1,(Zas r2 y0).2.1,Zai (Zas r1 y0).2.1 (w64 ((m + (cntL (List.take y0 a):Int)) + 1)))→T6 (∃ y0' : Nat,(y0'≤a.length)∧(a.length - y0') < (a.length - y0)∧lxs [.c (.row 0 0)] (vI (w64 (Zai (Zas r1 y0).2.1 (w64 ((m + (cntL (List.take y0 a):Int)) + 1)) + 1)) (m + (cntL (List.take y0' a):Int))∧lxs [.tp [], .tp [],ci 0] (vI (w64 ((y0:Int) + 1)) y0'∧TN 27 (lxs [.tp []] True)))∧pt (leB (.row Zak r3 0 0 none) (.row Zak (ZbC a m y0') 0 0 none)∧True)))))))) else T2 (pt (((ZbC a m y0)=Zc4 a m∧True)∧cI (m + (cntL (List.take y0 a):Int)) (Zah a m)))))) (by kernel_rfl) ?_
 unfold T2 T3 T4 T5 T6
 obtain ⟨hm0,hm1⟩:=hpre
 have hlm:a.length≤maxLen:=hwm.1.1
 unfold maxLen at hlm
 simp only [SIA,eq_self]
 refine ⟨⟨0,Nat.zero_le _,⟨by simp [cntL],rfl⟩,Eq.mpr (Za6 (t:=Zak)) (ZeV a m).symm⟩,fun k hk=>⟨fun hlt=>?_,fun hge=>?_⟩⟩
 ·have l0:(ZbC a m k).length=a.length:=ZcX a m k
  have hlt:k < a.length:=by omega
  have hg:a[k]?=some (Zas a k):=Zat (t:=Zak) hlt
  have hc:cntL (List.take (k + 1) a)=cntL (List.take k a) + (1 + (cntL (Zas a k).2.1 + (1))):=Zco hg
  have hcl:cntL (List.take (k + 1) a)≤cntL a:=ZdW a (k + 1)
  have hg0:(ZbC a m k)[k]?=some (Zas a k):=Zgs hg
  have hk0:k < (ZbC a m k).length:=by omega
  have e0:Zas (ZbC a m k) k=Zas a k:=Zcb (t:=Zak) hg0
  try simp (disch:=omega) only [ZaX,ZaX,Zai,Zam,Zah]
  repeat (refine ⟨by first | omega | exact ⟨by omega,by omega⟩ | exact ⟨by omega,by omega,by omega⟩,?_⟩)
  intro r1 h1
  have l1:r1.length=a.length:=by rw [h1,List.length_set]; exact l0
  try rw [e0] at h1
  try dsimp only at h1
  have e1:Zas r1 k=_:=(congrArg (fun r=>Zas r k) h1).trans (ZaH (t:=Zak) hk0)
  try rw [e1]
  try simp (disch:=omega) only [ZaX,ZaX,Zai,Zam,Zah]
  repeat (refine ⟨by first | omega | exact ⟨by omega,by omega⟩ | exact ⟨by omega,by omega,by omega⟩,?_⟩)
  intro r2 h2
  have l2:r2.length=a.length:=by rw [h2,List.length_set]; exact l1
  try rw [e1] at h2
  try dsimp only at h2
  rw [h1,List.set_set] at h2
  have e2:Zas r2 k=_:=(congrArg (fun r=>Zas r k) h2).trans (ZaH (t:=Zak) hk0)
  try rw [e2]
  try simp (disch:=omega) only [ZaX,ZaX,Zai,Zam,Zah]
  repeat (refine ⟨by first | omega | exact ⟨by omega,by omega⟩ | exact ⟨by omega,by omega,by omega⟩,?_⟩)
  intro r3 h3
  have l3:r3.length=a.length:=by rw [h3,List.length_set]; exact l2
  try rw [e2] at h3
  try dsimp only at h3
  rw [h2,List.set_set] at h3
  have e3:Zas r3 k=_:=(congrArg (fun r=>Zas r k) h3).trans (ZaH (t:=Zak) hk0)
  try rw [e3]
  try simp (disch:=omega) only [ZaX,ZaX,Zai,Zam,Zah]
  refine ⟨k + 1,hlt,by clear e1 h1 l1 r1 e2 h2 l2 r2 e3 h3 l3 r3; omega,⟨by clear e1 h1 l1 r1 e2 h2 l2 r2 e3 h3 l3 r3; first | omega | (simp (disch:=omega) only [ZaX,ZaX,Zai,Zam,Zah]; omega),by clear e1 h1 l1 r1 e2 h2 l2 r2 e3 h3 l3 r3; first | omega | exact Zbs (by unfold maxLen; omega)⟩,Eq.mpr (Za6 (t:=Zak)) (h3.trans (Zgt hg ?_))⟩
  exact ZeW
 ·have l0:(ZbC a m k).length=a.length:=ZcX a m k
  exact ZeZ
def Zr7:Zdb Tryz.prog:=⟨57,[(.q false (.list Zak)),(.a (.v Zax))],fun x=>ZfS x.1 x.2.1,fun x=>(Zc4 x.1 x.2.1,x.2.1,()),fun x=>.c (.int .i64 (Zah x.1 x.2.1)),fun _=>[],fun x hx=>Zr6 x.1 x.2.1 hx,Tryz.call57⟩
abbrev Zap (a:Zb1) (m:Int):Int:=m + ((cntI a:Nat):Int)
abbrev Zi3 (a:Zb1) (m:Int):Zb1:=mrkI a m
abbrev Zav (a:List Zdr) (m:Int):Int:=m + ((cntL a:Nat):Int)
abbrev ZdO (a:List Zdr) (m:Int):List Zdr:=markL a m
abbrev ZbX (a:List Zdr) (m:Int) (k:Nat):List Zdr:=Ztt a m k
abbrev ZhS (a:List Zdr) (m:Int):Prop:=0≤m∧m + cntL a≤4611686018427387904
def Zwx (a:List Zdr) (m:Int):Nat→List AV→Mem→Zbd
 | 2,tm,M=>⟨Nat,fun y=>(Zcf (Zct tm [(1, .c (.int .i64 (m + ((cntL (List.take y a):Nat):Int)))),(5, .c (.int .i64 ((y:Nat):Int)))]) 6 28,Zky M [(0, .row ZaR (ZbX a m y) 0 0 none)]),fun y=>(y≤List.length a),fun y=>(List.length a - y)⟩
 | _,_,_=>⟨Unit,fun _=>([],[]),fun _=>False,fun _=>0⟩
theorem Zwy (a:List Zdr) (m:Int) (hpre:ZhS a m):Zep Tryz.prog 137 (Zd7 0 [(.q false (.list ZaR)),(.a (.v Zax))] (a,m,())) (Zh3 0 [(.q false (.list ZaR)),(.a (.v Zax))] (a,m,())) (Zfj 0 [(.q false (.list ZaR)),(.a (.v Zax))] (ZdO a m,m,()) ++ []) (inpM 0 [(.q false (.list ZaR)),(.a (.v Zax))]) (.c (.int .i64 (Zav a m))):=by
 refine Zdu (T:=⟨[Zck],[],[],[],none,fun _=>[],1,[0],[]⟩) (L:=(Zwx a m)) Tryz.func137 rfl rfl rfl (by kernel_rfl) (fun hwf hwm=>?_)
 refine Eq.mpr (β:=T2 ((∃ q:Nat,(q≤a.length)∧lxs [.c (.row 0 0)] (vI m (m + (cntL (List.take q a):Int))∧lxs [.tp [], .tp [],ci 0] (vI 0 q∧TN 28 (lxs [.tp []] True)))∧pt (leB (.row ZaR a 0 0 none) (.row ZaR (ZbX a m q) 0 0 none)∧True))∧∀ y0:Nat,(y0≤a.length)→T4 (bif ltI y0 (List.length (ZbX a m y0)) then T3 (ix 3 y0 (List.length (ZbX a m y0))∧T2 (∀ r1:List Zdr,r1=List.set (ZbX a m y0) y0 ((m + (cntL (List.take y0 a):Int)),(ZaG (ZbX a m y0) y0).2)→T6 (ix 3 y0 r1.length∧T2 (∀ r2:List Zdr,r2=List.set r1 y0 ((ZaG r1 y0).1,(w64 ((m + (cntL (List.take y0 a):Int)) + 1)),(ZaG r1 y0).2.2)→T6 (pt (Zgu (w64 ((w64 ((m + (cntL (List.take y0 a):Int)) + 1)) + 1)))∧ix 3 y0 r2.length∧T2 (∀ r3:List Zdr,r3=List.set r2 y0 ((ZaG r2 y0).1,(ZaG r2 y0).2.1,Zcs (w64 ((w64 ((m + (cntL (List.take y0 a):Int)) + 1)) + 1)))→T6 (∃ y0' : Nat,(y0'≤a.length)∧(a.length - y0') < (a.length - y0)∧lxs [.c (.row 0 0)] (vI (w64 ((w64 ((w64 ((m + (cntL (List.take y0 a):Int)) + 1)) + 1)) + 1)) (m + (cntL (List.take y0' a):Int))∧lxs [.tp [], .tp [],ci 0] (vI (w64 ((y0:Int) + 1)) y0'∧TN 28 (lxs [.tp []] True)))∧pt (leB (.row ZaR r3 0 0 none) (.row ZaR (ZbX a m y0') 0 0 none)∧True)))))))) else T2 (pt (((ZbX a m y0)=ZdO a m∧True)∧cI (m + (cntL (List.take y0 a):Int)) (Zav a m)))))) (by kernel_rfl) ?_
 unfold T2 T3 T4 T6
 obtain ⟨hm0,hm1⟩:=hpre
 have hlm:a.length≤maxLen:=hwm.1.1
 unfold maxLen at hlm
 simp only [SIA,eq_self]
 refine ⟨⟨0,Nat.zero_le _,⟨by simp [cntL],rfl⟩,Eq.mpr (Za6 (t:=ZaR)) (ZeV a m).symm⟩,fun k hk=>⟨fun hlt=>?_,fun hge=>?_⟩⟩
 ·have l0:(ZbX a m k).length=a.length:=ZcX a m k
  have hlt:k < a.length:=by omega
  have hg:a[k]?=some (ZaG a k):=Zat (t:=ZaR) hlt
  have hc:cntL (List.take (k + 1) a)=cntL (List.take k a) + (1 + (1 + (1))):=Zco hg
  have hcl:cntL (List.take (k + 1) a)≤cntL a:=ZdW a (k + 1)
  have hg0:(ZbX a m k)[k]?=some (ZaG a k):=Zgs hg
  have hk0:k < (ZbX a m k).length:=by omega
  have e0:ZaG (ZbX a m k) k=ZaG a k:=Zcb (t:=ZaR) hg0
  try simp (disch:=omega) only [ZaX,ZaX,Zai,Zam,Zah,Zap,Zav]
  repeat (refine ⟨by first | omega | exact ⟨by omega,by omega⟩ | exact ⟨by omega,by omega,by omega⟩,?_⟩)
  intro r1 h1
  have l1:r1.length=a.length:=by rw [h1,List.length_set]; exact l0
  try rw [e0] at h1
  try dsimp only at h1
  have e1:ZaG r1 k=_:=(congrArg (fun r=>ZaG r k) h1).trans (ZaH (t:=ZaR) hk0)
  try rw [e1]
  try simp (disch:=omega) only [ZaX,ZaX,Zai,Zam,Zah,Zap,Zav]
  repeat (refine ⟨by first | omega | exact ⟨by omega,by omega⟩ | exact ⟨by omega,by omega,by omega⟩,?_⟩)
  intro r2 h2
  have l2:r2.length=a.length:=by rw [h2,List.length_set]; exact l1
  try rw [e1] at h2
  try dsimp only at h2
  rw [h1,List.set_set] at h2
  have e2:ZaG r2 k=_:=(congrArg (fun r=>ZaG r k) h2).trans (ZaH (t:=ZaR) hk0)
  try rw [e2]
  try simp (disch:=omega) only [ZaX,ZaX,Zai,Zam,Zah,Zap,Zav]
  repeat (refine ⟨by first | omega | exact ⟨by omega,by omega⟩ | exact ⟨by omega,by omega,by omega⟩,?_⟩)
  intro r3 h3
  have l3:r3.length=a.length:=by rw [h3,List.length_set]; exact l2
  try rw [e2] at h3
  try dsimp only at h3
  rw [h2,List.set_set] at h3
  have e3:ZaG r3 k=_:=(congrArg (fun r=>ZaG r k) h3).trans (ZaH (t:=ZaR) hk0)
  try rw [e3]
  try simp (disch:=omega) only [ZaX,ZaX,Zai,Zam,Zah,Zap,Zav]
  refine ⟨k + 1,hlt,by clear e1 h1 l1 r1 e2 h2 l2 r2 e3 h3 l3 r3; omega,⟨by clear e1 h1 l1 r1 e2 h2 l2 r2 e3 h3 l3 r3; first | omega | (simp (disch:=omega) only [ZaX,ZaX,Zai,Zam,Zah,Zap,Zav]; omega),by clear e1 h1 l1 r1 e2 h2 l2 r2 e3 h3 l3 r3; first | omega | exact Zbs (by unfold maxLen; omega)⟩,Eq.mpr (Za6 (t:=ZaR)) (h3.trans (Zgt hg ?_))⟩
  exact ZeW
 ·have l0:(ZbX a m k).length=a.length:=ZcX a m k
  exact ZeZ
def Zwz:Zdb Tryz.prog:=⟨137,[(.q false (.list ZaR)),(.a (.v Zax))],fun x=>ZhS x.1 x.2.1,fun x=>(ZdO x.1 x.2.1,x.2.1,()),fun x=>.c (.int .i64 (Zav x.1 x.2.1)),fun _=>[],fun x hx=>Zwy x.1 x.2.1 hx,Tryz.call137⟩
abbrev Zaw (a:List ZaO) (m:Int):Int:=m + ((cntL a:Nat):Int)
abbrev ZdP (a:List ZaO) (m:Int):List ZaO:=markL a m
abbrev ZbY (a:List ZaO) (m:Int) (k:Nat):List ZaO:=Ztt a m k
abbrev ZhT (a:List ZaO) (m:Int):Prop:=0≤m∧m + cntL a≤4611686018427387904
def ZwA (a:List ZaO) (m:Int):Nat→List AV→Mem→Zbd
 | 2,tm,M=>⟨Nat,fun y=>(Zcf (Zct tm [(1, .c (.int .i64 (m + ((cntL (List.take y a):Nat):Int)))),(5, .c (.int .i64 ((y:Nat):Int)))]) 6 35,Zky M [(0, .row Zaj (ZbY a m y) 0 0 none)]),fun y=>(y≤List.length a),fun y=>(List.length a - y)⟩
 | _,_,_=>⟨Unit,fun _=>([],[]),fun _=>False,fun _=>0⟩
theorem ZwB (a:List ZaO) (m:Int) (hpre:ZhT a m):Zep Tryz.prog 54 (Zd7 0 [(.q false (.list Zaj)),(.a (.v Zax))] (a,m,())) (Zh3 0 [(.q false (.list Zaj)),(.a (.v Zax))] (a,m,())) (Zfj 0 [(.q false (.list Zaj)),(.a (.v Zax))] (ZdP a m,m,()) ++ []) (inpM 0 [(.q false (.list Zaj)),(.a (.v Zax))]) (.c (.int .i64 (Zaw a m))):=by
 refine Zdu (T:=⟨[Zck],[],[],[Zwz],none,fun _=>[],1,[0],[]⟩) (L:=(ZwA a m)) Tryz.func54 rfl rfl rfl (by kernel_rfl) (fun hwf hwm=>?_)
 refine Eq.mpr (β:=T2 ((∃ q:Nat,(q≤a.length)∧lxs [.c (.row 0 0)] (vI m (m + (cntL (List.take q a):Int))∧lxs [.tp [], .tp [],ci 0] (vI 0 q∧TN 35 (lxs [.tp []] True)))∧pt (leB (.row Zaj a 0 0 none) (.row Zaj (ZbY a m q) 0 0 none)∧True))∧∀ y0:Nat,(y0≤a.length)→T4 (bif ltI y0 (List.length (ZbY a m y0)) then T3 (pt (Zgu (m + (cntL (List.take y0 a):Int)))∧ix 4 y0 (List.length (ZbY a m y0))∧T2 (∀ r1:List ZaO,r1=List.set (ZbY a m y0) y0 (Zcs (m + (cntL (List.take y0 a):Int)),(Zab (ZbY a m y0) y0).2)→T6 (ix 4 y0 r1.length∧T2 (∀ r2:List ZaO,r2=List.set r1 y0 ((Zab r1 y0).1,(w64 ((m + (cntL (List.take y0 a):Int)) + 1)),(Zab r1 y0).2.2)→T6 (ix 4 y0 r2.length∧T2 (∀ r3:List ZaO,r3=List.set r2 y0 ((Zab r2 y0).1,(Zab r2 y0).2.1,(w64 ((w64 ((m + (cntL (List.take y0 a):Int)) + 1)) + 1)),(Zab r2 y0).2.2.2)→T5 (ix 4 y0 r3.length∧T3 (pt (ZhS (Zab r3 y0).2.2.2 (w64 ((w64 ((w64 ((m + (cntL (List.take y0 a):Int)) + 1)) + 1)) + 1))∧(Zab r3 y0).2.2.2=(Zab r3 y0).2.2.2∧True)∧∀ r4:List ZaO,r4=List.set r3 y0 ((Zab r3 y0).1,(Zab r3 y0).2.1,(Zab r3 y0).2.2.1,ZdO (Zab r3 y0).2.2.2 (w64 ((w64 ((w64 ((m + (cntL (List.take y0 a):Int)) + 1)) + 1)) + 1)))→T4 (∃ y0' : Nat,(y0'≤a.length)∧(a.length - y0') < (a.length - y0)∧lxs [.c (.row 0 0)] (vI (Zav (Zab r3 y0).2.2.2 (w64 ((w64 ((w64 ((m + (cntL (List.take y0 a):Int)) + 1)) + 1)) + 1))) (m + (cntL (List.take y0' a):Int))∧lxs [.tp [], .tp [],ci 0] (vI (w64 ((y0:Int) + 1)) y0'∧TN 35 (lxs [.tp []] True)))∧pt (leB (.row Zaj r4 0 0 none) (.row Zaj (ZbY a m y0') 0 0 none)∧True)))))))))) else T2 (pt (((ZbY a m y0)=ZdP a m∧True)∧cI (m + (cntL (List.take y0 a):Int)) (Zaw a m)))))) (by kernel_rfl) ?_
 unfold T2 T3 T4 T5 T6
 obtain ⟨hm0,hm1⟩:=hpre
 have hlm:a.length≤maxLen:=hwm.1.1
 unfold maxLen at hlm
 simp only [SIA,eq_self]
 refine ⟨⟨0,Nat.zero_le _,⟨by simp [cntL],rfl⟩,Eq.mpr (Za6 (t:=Zaj)) (ZeV a m).symm⟩,fun k hk=>⟨fun hlt=>?_,fun hge=>?_⟩⟩
 ·have l0:(ZbY a m k).length=a.length:=ZcX a m k
  have hlt:k < a.length:=by omega
  have hg:a[k]?=some (Zab a k):=Zat (t:=Zaj) hlt
  have hc:cntL (List.take (k + 1) a)=cntL (List.take k a) + (1 + (1 + (1 + (cntL (Zab a k).2.2.2)))):=Zco hg
  have hcl:cntL (List.take (k + 1) a)≤cntL a:=ZdW a (k + 1)
  have hg0:(ZbY a m k)[k]?=some (Zab a k):=Zgs hg
  have hk0:k < (ZbY a m k).length:=by omega
  have e0:Zab (ZbY a m k) k=Zab a k:=Zcb (t:=Zaj) hg0
  try simp (disch:=omega) only [ZaX,ZaX,Zai,Zam,Zah,Zap,Zav,Zaw]
  repeat (refine ⟨by first | omega | exact ⟨by omega,by omega⟩ | exact ⟨by omega,by omega,by omega⟩,?_⟩)
  intro r1 h1
  have l1:r1.length=a.length:=by rw [h1,List.length_set]; exact l0
  try rw [e0] at h1
  try dsimp only at h1
  have e1:Zab r1 k=_:=(congrArg (fun r=>Zab r k) h1).trans (ZaH (t:=Zaj) hk0)
  try rw [e1]
  try simp (disch:=omega) only [ZaX,ZaX,Zai,Zam,Zah,Zap,Zav,Zaw]
  repeat (refine ⟨by first | omega | exact ⟨by omega,by omega⟩ | exact ⟨by omega,by omega,by omega⟩,?_⟩)
  intro r2 h2
  have l2:r2.length=a.length:=by rw [h2,List.length_set]; exact l1
  try rw [e1] at h2
  try dsimp only at h2
  rw [h1,List.set_set] at h2
  have e2:Zab r2 k=_:=(congrArg (fun r=>Zab r k) h2).trans (ZaH (t:=Zaj) hk0)
  try rw [e2]
  try simp (disch:=omega) only [ZaX,ZaX,Zai,Zam,Zah,Zap,Zav,Zaw]
  repeat (refine ⟨by first | omega | exact ⟨by omega,by omega⟩ | exact ⟨by omega,by omega,by omega⟩,?_⟩)
  intro r3 h3
  have l3:r3.length=a.length:=by rw [h3,List.length_set]; exact l2
  try rw [e2] at h3
  try dsimp only at h3
  rw [h2,List.set_set] at h3
  have e3:Zab r3 k=_:=(congrArg (fun r=>Zab r k) h3).trans (ZaH (t:=Zaj) hk0)
  try rw [e3]
  try simp (disch:=omega) only [ZaX,ZaX,Zai,Zam,Zah,Zap,Zav,Zaw]
  repeat (refine ⟨by first | omega | exact ⟨by omega,by omega⟩ | exact ⟨by omega,by omega,by omega⟩,?_⟩)
  intro r4 h4
  have l4:r4.length=a.length:=by rw [h4,List.length_set]; exact l3
  try rw [e3] at h4
  try dsimp only at h4
  rw [h3,List.set_set] at h4
  have e4:Zab r4 k=_:=(congrArg (fun r=>Zab r k) h4).trans (ZaH (t:=Zaj) hk0)
  try rw [e4]
  try simp (disch:=omega) only [ZaX,ZaX,Zai,Zam,Zah,Zap,Zav,Zaw]
  refine ⟨k + 1,hlt,by clear e1 h1 l1 r1 e2 h2 l2 r2 e3 h3 l3 r3 e4 h4 l4 r4; omega,⟨by clear e1 h1 l1 r1 e2 h2 l2 r2 e3 h3 l3 r3 e4 h4 l4 r4; first | omega | (simp (disch:=omega) only [ZaX,ZaX,Zai,Zam,Zah,Zap,Zav,Zaw]; omega),by clear e1 h1 l1 r1 e2 h2 l2 r2 e3 h3 l3 r3 e4 h4 l4 r4; first | omega | exact Zbs (by unfold maxLen; omega)⟩,Eq.mpr (Za6 (t:=Zaj)) (h4.trans (Zgt hg ?_))⟩
  exact ZeW
 ·have l0:(ZbY a m k).length=a.length:=ZcX a m k
  exact ZeZ
def ZwC:Zdb Tryz.prog:=⟨54,[(.q false (.list Zaj)),(.a (.v Zax))],fun x=>ZhT x.1 x.2.1,fun x=>(ZdP x.1 x.2.1,x.2.1,()),fun x=>.c (.int .i64 (Zaw x.1 x.2.1)),fun _=>[],fun x hx=>ZwB x.1 x.2.1 hx,Tryz.call54⟩
abbrev Zau (a:List ZaA) (m:Int):Int:=m + ((cntL a:Nat):Int)
abbrev ZcN (a:List ZaA) (m:Int):List ZaA:=markL a m
abbrev Zbr (a:List ZaA) (m:Int) (k:Nat):List ZaA:=Ztt a m k
abbrev Zff (a:List ZaA) (m:Int):Prop:=0≤m∧m + cntL a≤4611686018427387904
def Zpp (a:List ZaA) (m:Int):Nat→List AV→Mem→Zbd
 | 2,tm,M=>⟨Nat,fun y=>(Zcf (Zct tm [(1, .c (.int .i64 (m + ((cntL (List.take y a):Nat):Int)))),(5, .c (.int .i64 ((y:Nat):Int)))]) 6 50,Zky M [(0, .row Zag (Zbr a m y) 0 0 none)]),fun y=>(y≤List.length a),fun y=>(List.length a - y)⟩
 | _,_,_=>⟨Unit,fun _=>([],[]),fun _=>False,fun _=>0⟩
theorem Zpq (a:List ZaA) (m:Int) (hpre:Zff a m):Zep Tryz.prog 55 (Zd7 0 [(.q false (.list Zag)),(.a (.v Zax))] (a,m,())) (Zh3 0 [(.q false (.list Zag)),(.a (.v Zax))] (a,m,())) (Zfj 0 [(.q false (.list Zag)),(.a (.v Zax))] (ZcN a m,m,()) ++ []) (inpM 0 [(.q false (.list Zag)),(.a (.v Zax))]) (.c (.int .i64 (Zau a m))):=by
 refine Zdu (T:=⟨[Zck],[],[],[],none,fun _=>[],1,[0],[]⟩) (L:=(Zpp a m)) Tryz.func55 rfl rfl rfl (by kernel_rfl) (fun hwf hwm=>?_)
 refine Eq.mpr (β:=T2 ((∃ q:Nat,(q≤a.length)∧lxs [.c (.row 0 0)] (vI m (m + (cntL (List.take q a):Int))∧lxs [.tp [], .tp [],ci 0] (vI 0 q∧TN 50 (lxs [.tp []] True)))∧pt (leB (.row Zag a 0 0 none) (.row Zag (Zbr a m q) 0 0 none)∧True))∧∀ y0:Nat,(y0≤a.length)→T4 (bif ltI y0 (List.length (Zbr a m y0)) then T3 (ix 6 y0 (List.length (Zbr a m y0))∧T2 (∀ r1:List ZaA,r1=List.set (Zbr a m y0) y0 ((m + (cntL (List.take y0 a):Int)),(Zac (Zbr a m y0) y0).2)→T6 (ix 6 y0 r1.length∧T2 (∀ r2:List ZaA,r2=List.set r1 y0 ((Zac r1 y0).1,(w64 ((m + (cntL (List.take y0 a):Int)) + 1)),(Zac r1 y0).2.2)→T6 (ix 6 y0 r2.length∧T2 (∀ r3:List ZaA,r3=List.set r2 y0 ((Zac r2 y0).1,(Zac r2 y0).2.1,(w64 ((w64 ((m + (cntL (List.take y0 a):Int)) + 1)) + 1)),(Zac r2 y0).2.2.2)→T6 (ix 6 y0 r3.length∧T2 (∀ r4:List ZaA,r4=List.set r3 y0 ((Zac r3 y0).1,(Zac r3 y0).2.1,(Zac r3 y0).2.2.1,(w64 ((w64 ((w64 ((m + (cntL (List.take y0 a):Int)) + 1)) + 1)) + 1)),(Zac r3 y0).2.2.2.2)→T6 (pt (Zgu (w64 ((w64 ((w64 ((w64 ((m + (cntL (List.take y0 a):Int)) + 1)) + 1)) + 1)) + 1)))∧ix 6 y0 r4.length∧T2 (∀ r5:List ZaA,r5=List.set r4 y0 ((Zac r4 y0).1,(Zac r4 y0).2.1,(Zac r4 y0).2.2.1,(Zac r4 y0).2.2.2.1,Zcs (w64 ((w64 ((w64 ((w64 ((m + (cntL (List.take y0 a):Int)) + 1)) + 1)) + 1)) + 1)),(Zac r4 y0).2.2.2.2.2)→T6 (pt (Zgu (w64 ((w64 ((w64 ((w64 ((w64 ((m + (cntL (List.take y0 a):Int)) + 1)) + 1)) + 1)) + 1)) + 1)))∧ix 6 y0 r5.length∧T2 (∀ r6:List ZaA,r6=List.set r5 y0 ((Zac r5 y0).1,(Zac r5 y0).2.1,(Zac r5 y0).2.2.1,(Zac r5 y0).2.2.2.1,(Zac r5 y0).2.2.2.2.1,Zcs (w64 ((w64 ((w64 ((w64 ((w64 ((m + (cntL (List.take y0 a):Int)) + 1)) + 1)) + 1)) + 1)) + 1)))→T6 (∃ y0' : Nat,(y0'≤a.length)∧(a.length - y0') < (a.length - y0)∧lxs [.c (.row 0 0)] (vI (w64 ((w64 ((w64 ((w64 ((w64 ((w64 ((m + (cntL (List.take y0 a):Int)) + 1)) + 1)) + 1)) + 1)) + 1)) + 1)) (m + (cntL (List.take y0' a):Int))∧lxs [.tp [], .tp [],ci 0] (vI (w64 ((y0:Int) + 1)) y0'∧TN 50 (lxs [.tp []] True)))∧pt (leB (.row Zag r6 0 0 none) (.row Zag (Zbr a m y0') 0 0 none)∧True)))))))))))))) else T2 (pt (((Zbr a m y0)=ZcN a m∧True)∧cI (m + (cntL (List.take y0 a):Int)) (Zau a m)))))) (by kernel_rfl) ?_
 unfold T2 T3 T4 T6
 obtain ⟨hm0,hm1⟩:=hpre
 have hlm:a.length≤maxLen:=hwm.1.1
 unfold maxLen at hlm
 simp only [SIA,eq_self]
 refine ⟨⟨0,Nat.zero_le _,⟨by simp [cntL],rfl⟩,Eq.mpr (Za6 (t:=Zag)) (ZeV a m).symm⟩,fun k hk=>⟨fun hlt=>?_,fun hge=>?_⟩⟩
 ·have l0:(Zbr a m k).length=a.length:=ZcX a m k
  have hlt:k < a.length:=by omega
  have hg:a[k]?=some (Zac a k):=Zat (t:=Zag) hlt
  have hc:cntL (List.take (k + 1) a)=cntL (List.take k a) + (1 + (1 + (1 + (1 + (1 + (1)))))):=Zco hg
  have hcl:cntL (List.take (k + 1) a)≤cntL a:=ZdW a (k + 1)
  have hg0:(Zbr a m k)[k]?=some (Zac a k):=Zgs hg
  have hk0:k < (Zbr a m k).length:=by omega
  have e0:Zac (Zbr a m k) k=Zac a k:=Zcb (t:=Zag) hg0
  try simp (disch:=omega) only [ZaX,ZaX,Zai,Zam,Zah,Zap,Zav,Zaw,Zau]
  repeat (refine ⟨by first | omega | exact ⟨by omega,by omega⟩ | exact ⟨by omega,by omega,by omega⟩,?_⟩)
  intro r1 h1
  have l1:r1.length=a.length:=by rw [h1,List.length_set]; exact l0
  try rw [e0] at h1
  try dsimp only at h1
  have e1:Zac r1 k=_:=(congrArg (fun r=>Zac r k) h1).trans (ZaH (t:=Zag) hk0)
  try rw [e1]
  try simp (disch:=omega) only [ZaX,ZaX,Zai,Zam,Zah,Zap,Zav,Zaw,Zau]
  repeat (refine ⟨by first | omega | exact ⟨by omega,by omega⟩ | exact ⟨by omega,by omega,by omega⟩,?_⟩)
  intro r2 h2
  have l2:r2.length=a.length:=by rw [h2,List.length_set]; exact l1
  try rw [e1] at h2
  try dsimp only at h2
  rw [h1,List.set_set] at h2
  have e2:Zac r2 k=_:=(congrArg (fun r=>Zac r k) h2).trans (ZaH (t:=Zag) hk0)
  try rw [e2]
  try simp (disch:=omega) only [ZaX,ZaX,Zai,Zam,Zah,Zap,Zav,Zaw,Zau]
  repeat (refine ⟨by first | omega | exact ⟨by omega,by omega⟩ | exact ⟨by omega,by omega,by omega⟩,?_⟩)
  intro r3 h3
  have l3:r3.length=a.length:=by rw [h3,List.length_set]; exact l2
  try rw [e2] at h3
  try dsimp only at h3
  rw [h2,List.set_set] at h3
  have e3:Zac r3 k=_:=(congrArg (fun r=>Zac r k) h3).trans (ZaH (t:=Zag) hk0)
  try rw [e3]
  try simp (disch:=omega) only [ZaX,ZaX,Zai,Zam,Zah,Zap,Zav,Zaw,Zau]
  repeat (refine ⟨by first | omega | exact ⟨by omega,by omega⟩ | exact ⟨by omega,by omega,by omega⟩,?_⟩)
  intro r4 h4
  have l4:r4.length=a.length:=by rw [h4,List.length_set]; exact l3
  try rw [e3] at h4
  try dsimp only at h4
  rw [h3,List.set_set] at h4
  have e4:Zac r4 k=_:=(congrArg (fun r=>Zac r k) h4).trans (ZaH (t:=Zag) hk0)
  try rw [e4]
  try simp (disch:=omega) only [ZaX,ZaX,Zai,Zam,Zah,Zap,Zav,Zaw,Zau]
  repeat (refine ⟨by first | omega | exact ⟨by omega,by omega⟩ | exact ⟨by omega,by omega,by omega⟩,?_⟩)
  intro r5 h5
  have l5:r5.length=a.length:=by rw [h5,List.length_set]; exact l4
  try rw [e4] at h5
  try dsimp only at h5
  rw [h4,List.set_set] at h5
  have e5:Zac r5 k=_:=(congrArg (fun r=>Zac r k) h5).trans (ZaH (t:=Zag) hk0)
  try rw [e5]
  try simp (disch:=omega) only [ZaX,ZaX,Zai,Zam,Zah,Zap,Zav,Zaw,Zau]
  repeat (refine ⟨by first | omega | exact ⟨by omega,by omega⟩ | exact ⟨by omega,by omega,by omega⟩,?_⟩)
  intro r6 h6
  have l6:r6.length=a.length:=by rw [h6,List.length_set]; exact l5
  try rw [e5] at h6
  try dsimp only at h6
  rw [h5,List.set_set] at h6
  have e6:Zac r6 k=_:=(congrArg (fun r=>Zac r k) h6).trans (ZaH (t:=Zag) hk0)
  try rw [e6]
  try simp (disch:=omega) only [ZaX,ZaX,Zai,Zam,Zah,Zap,Zav,Zaw,Zau]
  refine ⟨k + 1,hlt,by clear e1 h1 l1 r1 e2 h2 l2 r2 e3 h3 l3 r3 e4 h4 l4 r4 e5 h5 l5 r5 e6 h6 l6 r6; omega,⟨by clear e1 h1 l1 r1 e2 h2 l2 r2 e3 h3 l3 r3 e4 h4 l4 r4 e5 h5 l5 r5 e6 h6 l6 r6; first | omega | (simp (disch:=omega) only [ZaX,ZaX,Zai,Zam,Zah,Zap,Zav,Zaw,Zau]; omega),by clear e1 h1 l1 r1 e2 h2 l2 r2 e3 h3 l3 r3 e4 h4 l4 r4 e5 h5 l5 r5 e6 h6 l6 r6; first | omega | exact Zbs (by unfold maxLen; omega)⟩,Eq.mpr (Za6 (t:=Zag)) (h6.trans (Zgt hg ?_))⟩
  exact ZeW
 ·have l0:(Zbr a m k).length=a.length:=ZcX a m k
  exact ZeZ
def Zpr:Zdb Tryz.prog:=⟨55,[(.q false (.list Zag)),(.a (.v Zax))],fun x=>Zff x.1 x.2.1,fun x=>(ZcN x.1 x.2.1,x.2.1,()),fun x=>.c (.int .i64 (Zau x.1 x.2.1)),fun _=>[],fun x hx=>Zpq x.1 x.2.1 hx,Tryz.call55⟩
abbrev ZaC (a:ZaI) (m:Int):Int:=m + ((cntI a:Nat):Int)
abbrev Zcx (a:ZaI) (m:Int):ZaI:=mrkI a m
abbrev ZgI (a:ZaI) (m:Int):Prop:=0≤m∧m + cntI a≤4611686018427387904
theorem Zuh (a:ZaI) (m:Int) (hpre:ZgI a m):Zep Tryz.prog 26 (Zd7 0 [(.q true ZbJ),(.a (.v Zax))] (a,m,())) (Zh3 0 [(.q true ZbJ),(.a (.v Zax))] (a,m,())) (Zfj 0 [(.q true ZbJ),(.a (.v Zax))] (Zcx a m,m,()) ++ []) (inpM 0 [(.q true ZbJ),(.a (.v Zax))]) (.c (.int .i64 (ZaC a m))):=by
 refine Zdu (T:=⟨[],[],[],[ZwC,Zpr],none,fun _=>[],2,[0,1],[]⟩) (L:=L0) Tryz.func26 rfl rfl rfl (by kernel_rfl) (fun hwf hwm=>?_)
 refine Eq.mpr (β:=T5 (pt (ZhT a.1 m∧a.1=a.1∧True)∧∀ r0:List ZaO,r0=ZdP a.1 m→T4 (pt (Zff a.2.1 (Zaw a.1 m)∧a.2.1=a.2.1∧True)∧∀ r1:List ZaA,r1=ZcN a.2.1 (Zaw a.1 m)→T3 (pt ((r0=(Zcx a m).1∧r1=(Zcx a m).2.1∧True)∧cI (Zau a.2.1 (Zaw a.1 m)) (ZaC a m)))))) (by kernel_rfl) ?_
 obtain ⟨hm0,hm1⟩:=hpre
 have hc0:cntI a=cntL a.1 + (cntL a.2.1 + (0)):=rfl
 simp only [SIA,eq_self]
 simp only [ZaX,Zai,Zam,Zah,Zap,Zav,Zaw,Zau,ZaC,ZcM,Zdn,Zc4,Zi3,ZdO,ZdP,ZcN,Zcx]
 exact Zzy
def Zui:Zdb Tryz.prog:=⟨26,[(.q true ZbJ),(.a (.v Zax))],fun x=>ZgI x.1 x.2.1,fun x=>(Zcx x.1 x.2.1,x.2.1,()),fun x=>.c (.int .i64 (ZaC x.1 x.2.1)),fun _=>[],fun x hx=>Zuh x.1 x.2.1 hx,Tryz.call26⟩
abbrev Zaq (a:List ZbT) (m:Int):Int:=m + ((cntL a:Nat):Int)
abbrev Zd3 (a:List ZbT) (m:Int):List ZbT:=markL a m
abbrev ZbM (a:List ZbT) (m:Int) (k:Nat):List ZbT:=Ztt a m k
abbrev ZgJ (a:List ZbT) (m:Int):Prop:=0≤m∧m + cntL a≤4611686018427387904
def Zuj (a:List ZbT) (m:Int):Nat→List AV→Mem→Zbd
 | 2,tm,M=>⟨Nat,fun y=>(Zcf (Zct tm [(1, .c (.int .i64 (m + ((cntL (List.take y a):Nat):Int)))),(5, .c (.int .i64 ((y:Nat):Int)))]) 6 20,Zky M [(0, .row Zay (ZbM a m y) 0 0 none)]),fun y=>(y≤List.length a),fun y=>(List.length a - y)⟩
 | _,_,_=>⟨Unit,fun _=>([],[]),fun _=>False,fun _=>0⟩
theorem Zuk (a:List ZbT) (m:Int) (hpre:ZgJ a m):Zep Tryz.prog 56 (Zd7 0 [(.q false (.list Zay)),(.a (.v Zax))] (a,m,())) (Zh3 0 [(.q false (.list Zay)),(.a (.v Zax))] (a,m,())) (Zfj 0 [(.q false (.list Zay)),(.a (.v Zax))] (Zd3 a m,m,()) ++ []) (inpM 0 [(.q false (.list Zay)),(.a (.v Zax))]) (.c (.int .i64 (Zaq a m))):=by
 refine Zdu (T:=⟨[],[],[],[],none,fun _=>[],1,[0],[]⟩) (L:=(Zuj a m)) Tryz.func56 rfl rfl rfl (by kernel_rfl) (fun hwf hwm=>?_)
 refine Eq.mpr (β:=T2 ((∃ q:Nat,(q≤a.length)∧lxs [.c (.row 0 0)] (vI m (m + (cntL (List.take q a):Int))∧lxs [.tp [], .tp [],ci 0] (vI 0 q∧TN 20 (lxs [.tp []] True)))∧pt (leB (.row Zay a 0 0 none) (.row Zay (ZbM a m q) 0 0 none)∧True))∧∀ y0:Nat,(y0≤a.length)→T4 (bif ltI y0 (List.length (ZbM a m y0)) then T3 (ix 2 y0 (List.length (ZbM a m y0))∧T2 (∀ r1:List ZbT,r1=List.set (ZbM a m y0) y0 ((m + (cntL (List.take y0 a):Int)),(ZaV (ZbM a m y0) y0).2)→T6 (ix 2 y0 r1.length∧T2 (∀ r2:List ZbT,r2=List.set r1 y0 ((ZaV r1 y0).1,(w64 ((m + (cntL (List.take y0 a):Int)) + 1)))→T6 (∃ y0' : Nat,(y0'≤a.length)∧(a.length - y0') < (a.length - y0)∧lxs [.c (.row 0 0)] (vI (w64 ((w64 ((m + (cntL (List.take y0 a):Int)) + 1)) + 1)) (m + (cntL (List.take y0' a):Int))∧lxs [.tp [], .tp [],ci 0] (vI (w64 ((y0:Int) + 1)) y0'∧TN 20 (lxs [.tp []] True)))∧pt (leB (.row Zay r2 0 0 none) (.row Zay (ZbM a m y0') 0 0 none)∧True)))))) else T2 (pt (((ZbM a m y0)=Zd3 a m∧True)∧cI (m + (cntL (List.take y0 a):Int)) (Zaq a m)))))) (by kernel_rfl) ?_
 unfold T2 T3 T4 T6
 obtain ⟨hm0,hm1⟩:=hpre
 have hlm:a.length≤maxLen:=hwm.1.1
 unfold maxLen at hlm
 simp only [SIA,eq_self]
 refine ⟨⟨0,Nat.zero_le _,⟨by simp [cntL],rfl⟩,Eq.mpr (Za6 (t:=Zay)) (ZeV a m).symm⟩,fun k hk=>⟨fun hlt=>?_,fun hge=>?_⟩⟩
 ·have l0:(ZbM a m k).length=a.length:=ZcX a m k
  have hlt:k < a.length:=by omega
  have hg:a[k]?=some (ZaV a k):=Zat (t:=Zay) hlt
  have hc:cntL (List.take (k + 1) a)=cntL (List.take k a) + (1 + (1)):=Zco hg
  have hcl:cntL (List.take (k + 1) a)≤cntL a:=ZdW a (k + 1)
  have hg0:(ZbM a m k)[k]?=some (ZaV a k):=Zgs hg
  have hk0:k < (ZbM a m k).length:=by omega
  have e0:ZaV (ZbM a m k) k=ZaV a k:=Zcb (t:=Zay) hg0
  try simp (disch:=omega) only [ZaX,ZaX,Zai,Zam,Zah,Zap,Zav,Zaw,Zau,ZaC,Zaq]
  repeat (refine ⟨by first | omega | exact ⟨by omega,by omega⟩ | exact ⟨by omega,by omega,by omega⟩,?_⟩)
  intro r1 h1
  have l1:r1.length=a.length:=by rw [h1,List.length_set]; exact l0
  try rw [e0] at h1
  try dsimp only at h1
  have e1:ZaV r1 k=_:=(congrArg (fun r=>ZaV r k) h1).trans (ZaH (t:=Zay) hk0)
  try rw [e1]
  try simp (disch:=omega) only [ZaX,ZaX,Zai,Zam,Zah,Zap,Zav,Zaw,Zau,ZaC,Zaq]
  repeat (refine ⟨by first | omega | exact ⟨by omega,by omega⟩ | exact ⟨by omega,by omega,by omega⟩,?_⟩)
  intro r2 h2
  have l2:r2.length=a.length:=by rw [h2,List.length_set]; exact l1
  try rw [e1] at h2
  try dsimp only at h2
  rw [h1,List.set_set] at h2
  have e2:ZaV r2 k=_:=(congrArg (fun r=>ZaV r k) h2).trans (ZaH (t:=Zay) hk0)
  try rw [e2]
  try simp (disch:=omega) only [ZaX,ZaX,Zai,Zam,Zah,Zap,Zav,Zaw,Zau,ZaC,Zaq]
  refine ⟨k + 1,hlt,by clear e1 h1 l1 r1 e2 h2 l2 r2; omega,⟨by clear e1 h1 l1 r1 e2 h2 l2 r2; first | omega | (simp (disch:=omega) only [ZaX,ZaX,Zai,Zam,Zah,Zap,Zav,Zaw,Zau,ZaC,Zaq]; omega),by clear e1 h1 l1 r1 e2 h2 l2 r2; first | omega | exact Zbs (by unfold maxLen; omega)⟩,Eq.mpr (Za6 (t:=Zay)) (h2.trans (Zgt hg ?_))⟩
  exact ZeW
 ·have l0:(ZbM a m k).length=a.length:=ZcX a m k
  exact ZeZ
def Zul:Zdb Tryz.prog:=⟨56,[(.q false (.list Zay)),(.a (.v Zax))],fun x=>ZgJ x.1 x.2.1,fun x=>(Zd3 x.1 x.2.1,x.2.1,()),fun x=>.c (.int .i64 (Zaq x.1 x.2.1)),fun _=>[],fun x hx=>Zuk x.1 x.2.1 hx,Tryz.call56⟩
abbrev ZaZ (a:ZvY) (m:Int):Int:=m + ((cntI a:Nat):Int)
abbrev Zr8 (a:ZvY) (m:Int):ZvY:=mrkI a m
abbrev ZaB (a:List ZaM) (m:Int):Int:=m + ((cntL a:Nat):Int)
abbrev Zd4 (a:List ZaM) (m:Int):List ZaM:=markL a m
abbrev ZbN (a:List ZaM) (m:Int) (k:Nat):List ZaM:=Ztt a m k
abbrev ZgK (a:List ZaM) (m:Int):Prop:=0≤m∧m + cntL a≤4611686018427387904
def Zum (a:List ZaM) (m:Int):Nat→List AV→Mem→Zbd
 | 2,tm,M=>⟨Nat,fun y=>(Zcf (Zct tm [(1, .c (.int .i64 (m + ((cntL (List.take y a):Nat):Int)))),(5, .c (.int .i64 ((y:Nat):Int)))]) 6 35,Zky M [(0, .row Zal (ZbN a m y) 0 0 none)]),fun y=>(y≤List.length a),fun y=>(List.length a - y)⟩
 | _,_,_=>⟨Unit,fun _=>([],[]),fun _=>False,fun _=>0⟩
theorem Zun (a:List ZaM) (m:Int) (hpre:ZgK a m):Zep Tryz.prog 59 (Zd7 0 [(.q false (.list Zal)),(.a (.v Zax))] (a,m,())) (Zh3 0 [(.q false (.list Zal)),(.a (.v Zax))] (a,m,())) (Zfj 0 [(.q false (.list Zal)),(.a (.v Zax))] (Zd4 a m,m,()) ++ []) (inpM 0 [(.q false (.list Zal)),(.a (.v Zax))]) (.c (.int .i64 (ZaB a m))):=by
 refine Zdu (T:=⟨[Zck],[],[],[],none,fun _=>[],1,[0],[]⟩) (L:=(Zum a m)) Tryz.func59 rfl rfl rfl (by kernel_rfl) (fun hwf hwm=>?_)
 refine Eq.mpr (β:=T2 ((∃ q:Nat,(q≤a.length)∧lxs [.c (.row 0 0)] (vI m (m + (cntL (List.take q a):Int))∧lxs [.tp [], .tp [],ci 0] (vI 0 q∧TN 35 (lxs [.tp []] True)))∧pt (leB (.row Zal a 0 0 none) (.row Zal (ZbN a m q) 0 0 none)∧True))∧∀ y0:Nat,(y0≤a.length)→T4 (bif ltI y0 (List.length (ZbN a m y0)) then T3 (ix 4 y0 (List.length (ZbN a m y0))∧T2 (∀ r1:List ZaM,r1=List.set (ZbN a m y0) y0 ((m + (cntL (List.take y0 a):Int)),(Zaf (ZbN a m y0) y0).2)→T6 (ix 4 y0 r1.length∧T2 (∀ r2:List ZaM,r2=List.set r1 y0 ((Zaf r1 y0).1,(w64 ((m + (cntL (List.take y0 a):Int)) + 1)),(Zaf r1 y0).2.2)→T6 (ix 4 y0 r2.length∧T2 (∀ r3:List ZaM,r3=List.set r2 y0 ((Zaf r2 y0).1,(Zaf r2 y0).2.1,(w64 ((w64 ((m + (cntL (List.take y0 a):Int)) + 1)) + 1)),(Zaf r2 y0).2.2.2)→T6 (pt (Zgu (w64 ((w64 ((w64 ((m + (cntL (List.take y0 a):Int)) + 1)) + 1)) + 1)))∧ix 4 y0 r3.length∧T2 (∀ r4:List ZaM,r4=List.set r3 y0 ((Zaf r3 y0).1,(Zaf r3 y0).2.1,(Zaf r3 y0).2.2.1,Zcs (w64 ((w64 ((w64 ((m + (cntL (List.take y0 a):Int)) + 1)) + 1)) + 1)))→T6 (∃ y0' : Nat,(y0'≤a.length)∧(a.length - y0') < (a.length - y0)∧lxs [.c (.row 0 0)] (vI (w64 ((w64 ((w64 ((w64 ((m + (cntL (List.take y0 a):Int)) + 1)) + 1)) + 1)) + 1)) (m + (cntL (List.take y0' a):Int))∧lxs [.tp [], .tp [],ci 0] (vI (w64 ((y0:Int) + 1)) y0'∧TN 35 (lxs [.tp []] True)))∧pt (leB (.row Zal r4 0 0 none) (.row Zal (ZbN a m y0') 0 0 none)∧True)))))))))) else T2 (pt (((ZbN a m y0)=Zd4 a m∧True)∧cI (m + (cntL (List.take y0 a):Int)) (ZaB a m)))))) (by kernel_rfl) ?_
 unfold T2 T3 T4 T6
 obtain ⟨hm0,hm1⟩:=hpre
 have hlm:a.length≤maxLen:=hwm.1.1
 unfold maxLen at hlm
 simp only [SIA,eq_self]
 refine ⟨⟨0,Nat.zero_le _,⟨by simp [cntL],rfl⟩,Eq.mpr (Za6 (t:=Zal)) (ZeV a m).symm⟩,fun k hk=>⟨fun hlt=>?_,fun hge=>?_⟩⟩
 ·have l0:(ZbN a m k).length=a.length:=ZcX a m k
  have hlt:k < a.length:=by omega
  have hg:a[k]?=some (Zaf a k):=Zat (t:=Zal) hlt
  have hc:cntL (List.take (k + 1) a)=cntL (List.take k a) + (1 + (1 + (1 + (1)))):=Zco hg
  have hcl:cntL (List.take (k + 1) a)≤cntL a:=ZdW a (k + 1)
  have hg0:(ZbN a m k)[k]?=some (Zaf a k):=Zgs hg
  have hk0:k < (ZbN a m k).length:=by omega
  have e0:Zaf (ZbN a m k) k=Zaf a k:=Zcb (t:=Zal) hg0
  try simp (disch:=omega) only [ZaX,ZaX,Zai,Zam,Zah,Zap,Zav,Zaw,Zau,ZaC,Zaq,ZaZ,ZaB]
  repeat (refine ⟨by first | omega | exact ⟨by omega,by omega⟩ | exact ⟨by omega,by omega,by omega⟩,?_⟩)
  intro r1 h1
  have l1:r1.length=a.length:=by rw [h1,List.length_set]; exact l0
  try rw [e0] at h1
  try dsimp only at h1
  have e1:Zaf r1 k=_:=(congrArg (fun r=>Zaf r k) h1).trans (ZaH (t:=Zal) hk0)
  try rw [e1]
  try simp (disch:=omega) only [ZaX,ZaX,Zai,Zam,Zah,Zap,Zav,Zaw,Zau,ZaC,Zaq,ZaZ,ZaB]
  repeat (refine ⟨by first | omega | exact ⟨by omega,by omega⟩ | exact ⟨by omega,by omega,by omega⟩,?_⟩)
  intro r2 h2
  have l2:r2.length=a.length:=by rw [h2,List.length_set]; exact l1
  try rw [e1] at h2
  try dsimp only at h2
  rw [h1,List.set_set] at h2
  have e2:Zaf r2 k=_:=(congrArg (fun r=>Zaf r k) h2).trans (ZaH (t:=Zal) hk0)
  try rw [e2]
  try simp (disch:=omega) only [ZaX,ZaX,Zai,Zam,Zah,Zap,Zav,Zaw,Zau,ZaC,Zaq,ZaZ,ZaB]
  repeat (refine ⟨by first | omega | exact ⟨by omega,by omega⟩ | exact ⟨by omega,by omega,by omega⟩,?_⟩)
  intro r3 h3
  have l3:r3.length=a.length:=by rw [h3,List.length_set]; exact l2
  try rw [e2] at h3
  try dsimp only at h3
  rw [h2,List.set_set] at h3
  have e3:Zaf r3 k=_:=(congrArg (fun r=>Zaf r k) h3).trans (ZaH (t:=Zal) hk0)
  try rw [e3]
  try simp (disch:=omega) only [ZaX,ZaX,Zai,Zam,Zah,Zap,Zav,Zaw,Zau,ZaC,Zaq,ZaZ,ZaB]
  repeat (refine ⟨by first | omega | exact ⟨by omega,by omega⟩ | exact ⟨by omega,by omega,by omega⟩,?_⟩)
  intro r4 h4
  have l4:r4.length=a.length:=by rw [h4,List.length_set]; exact l3
  try rw [e3] at h4
  try dsimp only at h4
  rw [h3,List.set_set] at h4
  have e4:Zaf r4 k=_:=(congrArg (fun r=>Zaf r k) h4).trans (ZaH (t:=Zal) hk0)
  try rw [e4]
  try simp (disch:=omega) only [ZaX,ZaX,Zai,Zam,Zah,Zap,Zav,Zaw,Zau,ZaC,Zaq,ZaZ,ZaB]
  refine ⟨k + 1,hlt,by clear e1 h1 l1 r1 e2 h2 l2 r2 e3 h3 l3 r3 e4 h4 l4 r4; omega,⟨by clear e1 h1 l1 r1 e2 h2 l2 r2 e3 h3 l3 r3 e4 h4 l4 r4; first | omega | (simp (disch:=omega) only [ZaX,ZaX,Zai,Zam,Zah,Zap,Zav,Zaw,Zau,ZaC,Zaq,ZaZ,ZaB]; omega),by clear e1 h1 l1 r1 e2 h2 l2 r2 e3 h3 l3 r3 e4 h4 l4 r4; first | omega | exact Zbs (by unfold maxLen; omega)⟩,Eq.mpr (Za6 (t:=Zal)) (h4.trans (Zgt hg ?_))⟩
  exact ZeW
 ·have l0:(ZbN a m k).length=a.length:=ZcX a m k
  exact ZeZ
def Zuo:Zdb Tryz.prog:=⟨59,[(.q false (.list Zal)),(.a (.v Zax))],fun x=>ZgK x.1 x.2.1,fun x=>(Zd4 x.1 x.2.1,x.2.1,()),fun x=>.c (.int .i64 (ZaB x.1 x.2.1)),fun _=>[],fun x hx=>Zun x.1 x.2.1 hx,Tryz.call59⟩
abbrev Zba (a:ZbH) (m:Int):Int:=m + ((cntI a:Nat):Int)
abbrev Zps (a:ZbH) (m:Int):ZbH:=mrkI a m
abbrev Za2 (a:Zad) (m:Int):Int:=m + ((cntI a:Nat):Int)
abbrev Zm6 (a:Zad) (m:Int):Zad:=mrkI a m
set_option maxRecDepth 100000
set_option maxHeartbeats 4000000
theorem ZwD (x:Zad) (K:Int) (hK:0≤K):mrk x K=(eqI (Int.tmod (K) 3) 0,(K + 1,(K + 1 + 1,(K + 1 + 1 + 1,(markL (x.2.2.2.2.1) (K + 1 + 1 + 1 + 1),((eqI (Int.tmod (K + 1 + 1 + 1 + 1 + ((cntL (x.2.2.2.2.1):Nat):Int)) 3) 0,markL (x.2.2.2.2.2.1.2) (K + 1 + 1 + 1 + 1 + ((cntL (x.2.2.2.2.1):Nat):Int) + 1)),(Zcs (K + 1 + 1 + 1 + 1 + ((cntL (x.2.2.2.2.1):Nat):Int) + 1 + ((cntL (x.2.2.2.2.2.1.2):Nat):Int)),(Zcs (K + 1 + 1 + 1 + 1 + ((cntL (x.2.2.2.2.1):Nat):Int) + 1 + ((cntL (x.2.2.2.2.2.1.2):Nat):Int) + 1),((markL (x.2.2.2.2.2.2.2.2.1.1) (K + 1 + 1 + 1 + 1 + ((cntL (x.2.2.2.2.1):Nat):Int) + 1 + ((cntL (x.2.2.2.2.2.1.2):Nat):Int) + 1 + 1),(eqI (Int.tmod (K + 1 + 1 + 1 + 1 + ((cntL (x.2.2.2.2.1):Nat):Int) + 1 + ((cntL (x.2.2.2.2.2.1.2):Nat):Int) + 1 + 1 + ((cntL (x.2.2.2.2.2.2.2.2.1.1):Nat):Int)) 3) 0,eqI (Int.tmod (K + 1 + 1 + 1 + 1 + ((cntL (x.2.2.2.2.1):Nat):Int) + 1 + ((cntL (x.2.2.2.2.2.1.2):Nat):Int) + 1 + 1 + ((cntL (x.2.2.2.2.2.2.2.2.1.1):Nat):Int) + 1) 3) 0)),((Zcs (K + 1 + 1 + 1 + 1 + ((cntL (x.2.2.2.2.1):Nat):Int) + 1 + ((cntL (x.2.2.2.2.2.1.2):Nat):Int) + 1 + 1 + ((cntL (x.2.2.2.2.2.2.2.2.1.1):Nat):Int) + 1 + 1),eqI (Int.tmod (K + 1 + 1 + 1 + 1 + ((cntL (x.2.2.2.2.1):Nat):Int) + 1 + ((cntL (x.2.2.2.2.2.1.2):Nat):Int) + 1 + 1 + ((cntL (x.2.2.2.2.2.2.2.2.1.1):Nat):Int) + 1 + 1 + 1) 3) 0),((Zcs (K + 1 + 1 + 1 + 1 + ((cntL (x.2.2.2.2.1):Nat):Int) + 1 + ((cntL (x.2.2.2.2.2.1.2):Nat):Int) + 1 + 1 + ((cntL (x.2.2.2.2.2.2.2.2.1.1):Nat):Int) + 1 + 1 + 1 + 1),Zcs (K + 1 + 1 + 1 + 1 + ((cntL (x.2.2.2.2.1):Nat):Int) + 1 + ((cntL (x.2.2.2.2.2.1.2):Nat):Int) + 1 + 1 + ((cntL (x.2.2.2.2.2.2.2.2.1.1):Nat):Int) + 1 + 1 + 1 + 1 + 1)),K + 1 + 1 + 1 + 1 + ((cntL (x.2.2.2.2.1):Nat):Int) + 1 + ((cntL (x.2.2.2.2.2.1.2):Nat):Int) + 1 + 1 + ((cntL (x.2.2.2.2.2.2.2.2.1.1):Nat):Int) + 1 + 1 + 1 + 1 + 1 + 1))))))))))):=by
 have f0:(mrk x K).1=eqI (Int.tmod (K) 3) 0:=by first | rfl | (simp only [GXA]; first | done | omega | (congr 1; omega) | (rw [Zan (by omega),decide_eq_decide]; done) | (rw [Zan (by omega),decide_eq_decide]; omega))
 have f1:(mrk x K).2.1=K + 1:=by first | rfl | (simp only [GXA]; first | done | omega | (congr 1; omega) | (rw [Zan (by omega),decide_eq_decide]; done) | (rw [Zan (by omega),decide_eq_decide]; omega))
 have f2:(mrk x K).2.2.1=K + 1 + 1:=by first | rfl | (simp only [GXA]; first | done | omega | (congr 1; omega) | (rw [Zan (by omega),decide_eq_decide]; done) | (rw [Zan (by omega),decide_eq_decide]; omega))
 have f3:(mrk x K).2.2.2.1=K + 1 + 1 + 1:=by first | rfl | (simp only [GXA]; first | done | omega | (congr 1; omega) | (rw [Zan (by omega),decide_eq_decide]; done) | (rw [Zan (by omega),decide_eq_decide]; omega))
 have f4:(mrk x K).2.2.2.2.1=markL (x.2.2.2.2.1) (K + 1 + 1 + 1 + 1):=by first | rfl | (simp only [GXA]; first | done | omega | (congr 1; omega) | (rw [Zan (by omega),decide_eq_decide]; done) | (rw [Zan (by omega),decide_eq_decide]; omega))
 have f5:(mrk x K).2.2.2.2.2.1.1=eqI (Int.tmod (K + 1 + 1 + 1 + 1 + ((cntL (x.2.2.2.2.1):Nat):Int)) 3) 0:=by first | rfl | (simp only [GXA]; first | done | omega | (congr 1; omega) | (rw [Zan (by omega),decide_eq_decide]; done) | (rw [Zan (by omega),decide_eq_decide]; omega))
 have f6:(mrk x K).2.2.2.2.2.1.2=markL (x.2.2.2.2.2.1.2) (K + 1 + 1 + 1 + 1 + ((cntL (x.2.2.2.2.1):Nat):Int) + 1):=by first | rfl | (simp only [GXA]; first | done | omega | (congr 1; omega) | (rw [Zan (by omega),decide_eq_decide]; done) | (rw [Zan (by omega),decide_eq_decide]; omega))
 have f7:(mrk x K).2.2.2.2.2.2.1=Zcs (K + 1 + 1 + 1 + 1 + ((cntL (x.2.2.2.2.1):Nat):Int) + 1 + ((cntL (x.2.2.2.2.2.1.2):Nat):Int)):=by first | rfl | (simp only [GXA]; first | done | omega | (congr 1; omega) | (rw [Zan (by omega),decide_eq_decide]; done) | (rw [Zan (by omega),decide_eq_decide]; omega))
 have f8:(mrk x K).2.2.2.2.2.2.2.1=Zcs (K + 1 + 1 + 1 + 1 + ((cntL (x.2.2.2.2.1):Nat):Int) + 1 + ((cntL (x.2.2.2.2.2.1.2):Nat):Int) + 1):=by first | rfl | (simp only [GXA]; first | done | omega | (congr 1; omega) | (rw [Zan (by omega),decide_eq_decide]; done) | (rw [Zan (by omega),decide_eq_decide]; omega))
 have f9:(mrk x K).2.2.2.2.2.2.2.2.1.1=markL (x.2.2.2.2.2.2.2.2.1.1) (K + 1 + 1 + 1 + 1 + ((cntL (x.2.2.2.2.1):Nat):Int) + 1 + ((cntL (x.2.2.2.2.2.1.2):Nat):Int) + 1 + 1):=by first | rfl | (simp only [GXA]; first | done | omega | (congr 1; omega) | (rw [Zan (by omega),decide_eq_decide]; done) | (rw [Zan (by omega),decide_eq_decide]; omega))
 have f10:(mrk x K).2.2.2.2.2.2.2.2.1.2.1=eqI (Int.tmod (K + 1 + 1 + 1 + 1 + ((cntL (x.2.2.2.2.1):Nat):Int) + 1 + ((cntL (x.2.2.2.2.2.1.2):Nat):Int) + 1 + 1 + ((cntL (x.2.2.2.2.2.2.2.2.1.1):Nat):Int)) 3) 0:=by first | rfl | (simp only [GXA]; first | done | omega | (congr 1; omega) | (rw [Zan (by omega),decide_eq_decide]; done) | (rw [Zan (by omega),decide_eq_decide]; omega))
 have f11:(mrk x K).2.2.2.2.2.2.2.2.1.2.2=eqI (Int.tmod (K + 1 + 1 + 1 + 1 + ((cntL (x.2.2.2.2.1):Nat):Int) + 1 + ((cntL (x.2.2.2.2.2.1.2):Nat):Int) + 1 + 1 + ((cntL (x.2.2.2.2.2.2.2.2.1.1):Nat):Int) + 1) 3) 0:=by first | rfl | (simp only [GXA]; first | done | omega | (congr 1; omega) | (rw [Zan (by omega),decide_eq_decide]; done) | (rw [Zan (by omega),decide_eq_decide]; omega))
 have f12:(mrk x K).2.2.2.2.2.2.2.2.2.1.1=Zcs (K + 1 + 1 + 1 + 1 + ((cntL (x.2.2.2.2.1):Nat):Int) + 1 + ((cntL (x.2.2.2.2.2.1.2):Nat):Int) + 1 + 1 + ((cntL (x.2.2.2.2.2.2.2.2.1.1):Nat):Int) + 1 + 1):=by first | rfl | (simp only [GXA]; first | done | omega | (congr 1; omega) | (rw [Zan (by omega),decide_eq_decide]; done) | (rw [Zan (by omega),decide_eq_decide]; omega))
 have f13:(mrk x K).2.2.2.2.2.2.2.2.2.1.2=eqI (Int.tmod (K + 1 + 1 + 1 + 1 + ((cntL (x.2.2.2.2.1):Nat):Int) + 1 + ((cntL (x.2.2.2.2.2.1.2):Nat):Int) + 1 + 1 + ((cntL (x.2.2.2.2.2.2.2.2.1.1):Nat):Int) + 1 + 1 + 1) 3) 0:=by first | rfl | (simp only [GXA]; first | done | omega | (congr 1; omega) | (rw [Zan (by omega),decide_eq_decide]; done) | (rw [Zan (by omega),decide_eq_decide]; omega))
 have f14:(mrk x K).2.2.2.2.2.2.2.2.2.2.1.1=Zcs (K + 1 + 1 + 1 + 1 + ((cntL (x.2.2.2.2.1):Nat):Int) + 1 + ((cntL (x.2.2.2.2.2.1.2):Nat):Int) + 1 + 1 + ((cntL (x.2.2.2.2.2.2.2.2.1.1):Nat):Int) + 1 + 1 + 1 + 1):=by first | rfl | (simp only [GXA]; first | done | omega | (congr 1; omega) | (rw [Zan (by omega),decide_eq_decide]; done) | (rw [Zan (by omega),decide_eq_decide]; omega))
 have f15:(mrk x K).2.2.2.2.2.2.2.2.2.2.1.2=Zcs (K + 1 + 1 + 1 + 1 + ((cntL (x.2.2.2.2.1):Nat):Int) + 1 + ((cntL (x.2.2.2.2.2.1.2):Nat):Int) + 1 + 1 + ((cntL (x.2.2.2.2.2.2.2.2.1.1):Nat):Int) + 1 + 1 + 1 + 1 + 1):=by first | rfl | (simp only [GXA]; first | done | omega | (congr 1; omega) | (rw [Zan (by omega),decide_eq_decide]; done) | (rw [Zan (by omega),decide_eq_decide]; omega))
 have f16:(mrk x K).2.2.2.2.2.2.2.2.2.2.2=K + 1 + 1 + 1 + 1 + ((cntL (x.2.2.2.2.1):Nat):Int) + 1 + ((cntL (x.2.2.2.2.2.1.2):Nat):Int) + 1 + 1 + ((cntL (x.2.2.2.2.2.2.2.2.1.1):Nat):Int) + 1 + 1 + 1 + 1 + 1 + 1:=by first | rfl | (simp only [GXA]; first | done | omega | (congr 1; omega) | (rw [Zan (by omega),decide_eq_decide]; done) | (rw [Zan (by omega),decide_eq_decide]; omega))
 exact (Prod.ext f0 (Prod.ext f1 (Prod.ext f2 (Prod.ext f3 (Prod.ext f4 (Prod.ext (Prod.ext f5 f6) (Prod.ext f7 (Prod.ext f8 (Prod.ext (Prod.ext f9 (Prod.ext f10 f11)) (Prod.ext (Prod.ext f12 f13) (Prod.ext (Prod.ext f14 f15) f16)))))))))))
abbrev ZaP (a:List Zad) (m:Int):Int:=m + ((cntL a:Nat):Int)
abbrev Zc8 (a:List Zad) (m:Int):List Zad:=markL a m
abbrev Zbj (a:List Zad) (m:Int) (k:Nat):List Zad:=Ztt a m k
abbrev ZeM (a:List Zad) (m:Int):Prop:=0≤m∧m + cntL a≤4611686018427387904
def Zop (a:List Zad) (m:Int):Nat→List AV→Mem→Zbd
 | 2,tm,M=>⟨Nat,fun y=>(Zcf (Zct tm [(1, .c (.int .i64 (m + ((cntL (List.take y a):Nat):Int)))),(5, .c (.int .i64 ((y:Nat):Int)))]) 6 150,Zky M [(0, .row Zae (Zbj a m y) 0 0 none)]),fun y=>(y≤List.length a),fun y=>(List.length a - y)⟩
 | _,_,_=>⟨Unit,fun _=>([],[]),fun _=>False,fun _=>0⟩
theorem Zoq (a:List Zad) (m:Int) (hpre:ZeM a m):Zep Tryz.prog 27 (Zd7 0 [(.q false (.list Zae)),(.a (.v Zax))] (a,m,())) (Zh3 0 [(.q false (.list Zae)),(.a (.v Zax))] (a,m,())) (Zfj 0 [(.q false (.list Zae)),(.a (.v Zax))] (Zc8 a m,m,()) ++ []) (inpM 0 [(.q false (.list Zae)),(.a (.v Zax))]) (.c (.int .i64 (ZaP a m))):=by
 refine Zdu (T:=⟨[Zck],[],[],[Zul,Zr7,Zuo],none,fun _=>[],1,[0],[]⟩) (L:=(Zop a m)) Tryz.func27 rfl rfl rfl (by kernel_rfl) (fun hwf hwm=>?_)
 refine Eq.mpr (β:=T2 ((∃ q:Nat,(q≤a.length)∧lxs [.c (.row 0 0)] (vI m (m + (cntL (List.take q a):Int))∧lxs [.tp [], .tp [],ci 0] (vI 0 q∧TN 150 (lxs [.tp []] True)))∧pt (leB (.row Zae a 0 0 none) (.row Zae (Zbj a m q) 0 0 none)∧True))∧∀ y0:Nat,(y0≤a.length)→T4 (bif ltI y0 (List.length (Zbj a m y0)) then T3 ((3:Int) ≠ 0∧True∧ix 17 y0 (List.length (Zbj a m y0))∧T2 (∀ r1:List Zad,r1=List.set (Zbj a m y0) y0 ((eqI (Int.tmod (m + (cntL (List.take y0 a):Int)) 3) 0),(Zaa (Zbj a m y0) y0).2)→T6 (ix 17 y0 r1.length∧T2 (∀ r2:List Zad,r2=List.set r1 y0 ((Zaa r1 y0).1,(w64 ((m + (cntL (List.take y0 a):Int)) + 1)),(Zaa r1 y0).2.2)→T6 (ix 17 y0 r2.length∧T2 (∀ r3:List Zad,r3=List.set r2 y0 ((Zaa r2 y0).1,(Zaa r2 y0).2.1,(w64 ((w64 ((m + (cntL (List.take y0 a):Int)) + 1)) + 1)),(Zaa r2 y0).2.2.2)→T6 (ix 17 y0 r3.length∧T2 (∀ r4:List Zad,r4=List.set r3 y0 ((Zaa r3 y0).1,(Zaa r3 y0).2.1,(Zaa r3 y0).2.2.1,(w64 ((w64 ((w64 ((m + (cntL (List.take y0 a):Int)) + 1)) + 1)) + 1)),(Zaa r3 y0).2.2.2.2)→T5 (ix 17 y0 r4.length∧T4 (pt (ZgJ (Zaa r4 y0).2.2.2.2.1 (w64 ((w64 ((w64 ((w64 ((m + (cntL (List.take y0 a):Int)) + 1)) + 1)) + 1)) + 1))∧(Zaa r4 y0).2.2.2.2.1=(Zaa r4 y0).2.2.2.2.1∧True)∧∀ r5:List Zad,r5=List.set r4 y0 ((Zaa r4 y0).1,(Zaa r4 y0).2.1,(Zaa r4 y0).2.2.1,(Zaa r4 y0).2.2.2.1,Zd3 (Zaa r4 y0).2.2.2.2.1 (w64 ((w64 ((w64 ((w64 ((m + (cntL (List.take y0 a):Int)) + 1)) + 1)) + 1)) + 1)),(Zaa r4 y0).2.2.2.2.2)→T4 ((3:Int) ≠ 0∧True∧ix 17 y0 r5.length∧T3 (∀ r6:List Zad,r6=List.set r5 y0 ((Zaa r5 y0).1,(Zaa r5 y0).2.1,(Zaa r5 y0).2.2.1,(Zaa r5 y0).2.2.2.1,(Zaa r5 y0).2.2.2.2.1,((eqI (Int.tmod (Zaq (Zaa r4 y0).2.2.2.2.1 (w64 ((w64 ((w64 ((w64 ((m + (cntL (List.take y0 a):Int)) + 1)) + 1)) + 1)) + 1))) 3) 0),(Zaa r5 y0).2.2.2.2.2.1.2),(Zaa r5 y0).2.2.2.2.2.2)→T5 (ix 17 y0 r6.length∧T4 (pt (ZfS (Zaa r6 y0).2.2.2.2.2.1.2 (w64 (Zaq (Zaa r4 y0).2.2.2.2.1 (w64 ((w64 ((w64 ((w64 ((m + (cntL (List.take y0 a):Int)) + 1)) + 1)) + 1)) + 1)) + 1))∧(Zaa r6 y0).2.2.2.2.2.1.2=(Zaa r6 y0).2.2.2.2.2.1.2∧True)∧∀ r7:List Zad,r7=List.set r6 y0 ((Zaa r6 y0).1,(Zaa r6 y0).2.1,(Zaa r6 y0).2.2.1,(Zaa r6 y0).2.2.2.1,(Zaa r6 y0).2.2.2.2.1,((Zaa r6 y0).2.2.2.2.2.1.1,Zc4 (Zaa r6 y0).2.2.2.2.2.1.2 (w64 (Zaq (Zaa r4 y0).2.2.2.2.1 (w64 ((w64 ((w64 ((w64 ((m + (cntL (List.take y0 a):Int)) + 1)) + 1)) + 1)) + 1)) + 1))),(Zaa r6 y0).2.2.2.2.2.2)→T4 (pt (Zgu (Zah (Zaa r6 y0).2.2.2.2.2.1.2 (w64 (Zaq (Zaa r4 y0).2.2.2.2.1 (w64 ((w64 ((w64 ((w64 ((m + (cntL (List.take y0 a):Int)) + 1)) + 1)) + 1)) + 1)) + 1))))∧ix 17 y0 r7.length∧T2 (∀ r8:List Zad,r8=List.set r7 y0 ((Zaa r7 y0).1,(Zaa r7 y0).2.1,(Zaa r7 y0).2.2.1,(Zaa r7 y0).2.2.2.1,(Zaa r7 y0).2.2.2.2.1,(Zaa r7 y0).2.2.2.2.2.1,Zcs (Zah (Zaa r6 y0).2.2.2.2.2.1.2 (w64 (Zaq (Zaa r4 y0).2.2.2.2.1 (w64 ((w64 ((w64 ((w64 ((m + (cntL (List.take y0 a):Int)) + 1)) + 1)) + 1)) + 1)) + 1))),(Zaa r7 y0).2.2.2.2.2.2.2)→T6 (pt (Zgu (w64 (Zah (Zaa r6 y0).2.2.2.2.2.1.2 (w64 (Zaq (Zaa r4 y0).2.2.2.2.1 (w64 ((w64 ((w64 ((w64 ((m + (cntL (List.take y0 a):Int)) + 1)) + 1)) + 1)) + 1)) + 1)) + 1)))∧ix 17 y0 r8.length∧T2 (∀ r9:List Zad,r9=List.set r8 y0 ((Zaa r8 y0).1,(Zaa r8 y0).2.1,(Zaa r8 y0).2.2.1,(Zaa r8 y0).2.2.2.1,(Zaa r8 y0).2.2.2.2.1,(Zaa r8 y0).2.2.2.2.2.1,(Zaa r8 y0).2.2.2.2.2.2.1,Zcs (w64 (Zah (Zaa r6 y0).2.2.2.2.2.1.2 (w64 (Zaq (Zaa r4 y0).2.2.2.2.1 (w64 ((w64 ((w64 ((w64 ((m + (cntL (List.take y0 a):Int)) + 1)) + 1)) + 1)) + 1)) + 1)) + 1)),(Zaa r8 y0).2.2.2.2.2.2.2.2)→T5 (ix 17 y0 r9.length∧T4 (pt (ZgK (Zaa r9 y0).2.2.2.2.2.2.2.2.1.1 (w64 ((w64 (Zah (Zaa r6 y0).2.2.2.2.2.1.2 (w64 (Zaq (Zaa r4 y0).2.2.2.2.1 (w64 ((w64 ((w64 ((w64 ((m + (cntL (List.take y0 a):Int)) + 1)) + 1)) + 1)) + 1)) + 1)) + 1)) + 1))∧(Zaa r9 y0).2.2.2.2.2.2.2.2.1.1=(Zaa r9 y0).2.2.2.2.2.2.2.2.1.1∧True)∧∀ r10:List Zad,r10=List.set r9 y0 ((Zaa r9 y0).1,(Zaa r9 y0).2.1,(Zaa r9 y0).2.2.1,(Zaa r9 y0).2.2.2.1,(Zaa r9 y0).2.2.2.2.1,(Zaa r9 y0).2.2.2.2.2.1,(Zaa r9 y0).2.2.2.2.2.2.1,(Zaa r9 y0).2.2.2.2.2.2.2.1,(Zd4 (Zaa r9 y0).2.2.2.2.2.2.2.2.1.1 (w64 ((w64 (Zah (Zaa r6 y0).2.2.2.2.2.1.2 (w64 (Zaq (Zaa r4 y0).2.2.2.2.1 (w64 ((w64 ((w64 ((w64 ((m + (cntL (List.take y0 a):Int)) + 1)) + 1)) + 1)) + 1)) + 1)) + 1)) + 1)),(Zaa r9 y0).2.2.2.2.2.2.2.2.1.2),(Zaa r9 y0).2.2.2.2.2.2.2.2.2)→T4 ((3:Int) ≠ 0∧True∧ix 17 y0 r10.length∧T3 (∀ r11:List Zad,r11=List.set r10 y0 ((Zaa r10 y0).1,(Zaa r10 y0).2.1,(Zaa r10 y0).2.2.1,(Zaa r10 y0).2.2.2.1,(Zaa r10 y0).2.2.2.2.1,(Zaa r10 y0).2.2.2.2.2.1,(Zaa r10 y0).2.2.2.2.2.2.1,(Zaa r10 y0).2.2.2.2.2.2.2.1,((Zaa r10 y0).2.2.2.2.2.2.2.2.1.1,(eqI (Int.tmod (ZaB (Zaa r9 y0).2.2.2.2.2.2.2.2.1.1 (w64 ((w64 (Zah (Zaa r6 y0).2.2.2.2.2.1.2 (w64 (Zaq (Zaa r4 y0).2.2.2.2.1 (w64 ((w64 ((w64 ((w64 ((m + (cntL (List.take y0 a):Int)) + 1)) + 1)) + 1)) + 1)) + 1)) + 1)) + 1))) 3) 0),(Zaa r10 y0).2.2.2.2.2.2.2.2.1.2.2),(Zaa r10 y0).2.2.2.2.2.2.2.2.2)→T6 ((3:Int) ≠ 0∧True∧ix 17 y0 r11.length∧T3 (∀ r12:List Zad,r12=List.set r11 y0 ((Zaa r11 y0).1,(Zaa r11 y0).2.1,(Zaa r11 y0).2.2.1,(Zaa r11 y0).2.2.2.1,(Zaa r11 y0).2.2.2.2.1,(Zaa r11 y0).2.2.2.2.2.1,(Zaa r11 y0).2.2.2.2.2.2.1,(Zaa r11 y0).2.2.2.2.2.2.2.1,((Zaa r11 y0).2.2.2.2.2.2.2.2.1.1,(Zaa r11 y0).2.2.2.2.2.2.2.2.1.2.1,(eqI (Int.tmod (w64 (ZaB (Zaa r9 y0).2.2.2.2.2.2.2.2.1.1 (w64 ((w64 (Zah (Zaa r6 y0).2.2.2.2.2.1.2 (w64 (Zaq (Zaa r4 y0).2.2.2.2.1 (w64 ((w64 ((w64 ((w64 ((m + (cntL (List.take y0 a):Int)) + 1)) + 1)) + 1)) + 1)) + 1)) + 1)) + 1)) + 1)) 3) 0)),(Zaa r11 y0).2.2.2.2.2.2.2.2.2)→T6 (pt (Zgu (w64 ((w64 (ZaB (Zaa r9 y0).2.2.2.2.2.2.2.2.1.1 (w64 ((w64 (Zah (Zaa r6 y0).2.2.2.2.2.1.2 (w64 (Zaq (Zaa r4 y0).2.2.2.2.1 (w64 ((w64 ((w64 ((w64 ((m + (cntL (List.take y0 a):Int)) + 1)) + 1)) + 1)) + 1)) + 1)) + 1)) + 1)) + 1)) + 1)))∧ix 17 y0 r12.length∧T3 (∀ r13:List Zad,r13=List.set r12 y0 ((Zaa r12 y0).1,(Zaa r12 y0).2.1,(Zaa r12 y0).2.2.1,(Zaa r12 y0).2.2.2.1,(Zaa r12 y0).2.2.2.2.1,(Zaa r12 y0).2.2.2.2.2.1,(Zaa r12 y0).2.2.2.2.2.2.1,(Zaa r12 y0).2.2.2.2.2.2.2.1,(Zaa r12 y0).2.2.2.2.2.2.2.2.1,(Zcs (w64 ((w64 (ZaB (Zaa r9 y0).2.2.2.2.2.2.2.2.1.1 (w64 ((w64 (Zah (Zaa r6 y0).2.2.2.2.2.1.2 (w64 (Zaq (Zaa r4 y0).2.2.2.2.1 (w64 ((w64 ((w64 ((w64 ((m + (cntL (List.take y0 a):Int)) + 1)) + 1)) + 1)) + 1)) + 1)) + 1)) + 1)) + 1)) + 1)),(Zaa r12 y0).2.2.2.2.2.2.2.2.2.1.2),(Zaa r12 y0).2.2.2.2.2.2.2.2.2.2)→T6 ((3:Int) ≠ 0∧True∧ix 17 y0 r13.length∧T3 (∀ r14:List Zad,r14=List.set r13 y0 ((Zaa r13 y0).1,(Zaa r13 y0).2.1,(Zaa r13 y0).2.2.1,(Zaa r13 y0).2.2.2.1,(Zaa r13 y0).2.2.2.2.1,(Zaa r13 y0).2.2.2.2.2.1,(Zaa r13 y0).2.2.2.2.2.2.1,(Zaa r13 y0).2.2.2.2.2.2.2.1,(Zaa r13 y0).2.2.2.2.2.2.2.2.1,((Zaa r13 y0).2.2.2.2.2.2.2.2.2.1.1,(eqI (Int.tmod (w64 ((w64 ((w64 (ZaB (Zaa r9 y0).2.2.2.2.2.2.2.2.1.1 (w64 ((w64 (Zah (Zaa r6 y0).2.2.2.2.2.1.2 (w64 (Zaq (Zaa r4 y0).2.2.2.2.1 (w64 ((w64 ((w64 ((w64 ((m + (cntL (List.take y0 a):Int)) + 1)) + 1)) + 1)) + 1)) + 1)) + 1)) + 1)) + 1)) + 1)) + 1)) 3) 0)),(Zaa r13 y0).2.2.2.2.2.2.2.2.2.2)→T6 (pt (Zgu (w64 ((w64 ((w64 ((w64 (ZaB (Zaa r9 y0).2.2.2.2.2.2.2.2.1.1 (w64 ((w64 (Zah (Zaa r6 y0).2.2.2.2.2.1.2 (w64 (Zaq (Zaa r4 y0).2.2.2.2.1 (w64 ((w64 ((w64 ((w64 ((m + (cntL (List.take y0 a):Int)) + 1)) + 1)) + 1)) + 1)) + 1)) + 1)) + 1)) + 1)) + 1)) + 1)) + 1)))∧ix 17 y0 r14.length∧T3 (∀ r15:List Zad,r15=List.set r14 y0 ((Zaa r14 y0).1,(Zaa r14 y0).2.1,(Zaa r14 y0).2.2.1,(Zaa r14 y0).2.2.2.1,(Zaa r14 y0).2.2.2.2.1,(Zaa r14 y0).2.2.2.2.2.1,(Zaa r14 y0).2.2.2.2.2.2.1,(Zaa r14 y0).2.2.2.2.2.2.2.1,(Zaa r14 y0).2.2.2.2.2.2.2.2.1,(Zaa r14 y0).2.2.2.2.2.2.2.2.2.1,(Zcs (w64 ((w64 ((w64 ((w64 (ZaB (Zaa r9 y0).2.2.2.2.2.2.2.2.1.1 (w64 ((w64 (Zah (Zaa r6 y0).2.2.2.2.2.1.2 (w64 (Zaq (Zaa r4 y0).2.2.2.2.1 (w64 ((w64 ((w64 ((w64 ((m + (cntL (List.take y0 a):Int)) + 1)) + 1)) + 1)) + 1)) + 1)) + 1)) + 1)) + 1)) + 1)) + 1)) + 1)),(Zaa r14 y0).2.2.2.2.2.2.2.2.2.2.1.2),(Zaa r14 y0).2.2.2.2.2.2.2.2.2.2.2)→T6 (pt (Zgu (w64 ((w64 ((w64 ((w64 ((w64 (ZaB (Zaa r9 y0).2.2.2.2.2.2.2.2.1.1 (w64 ((w64 (Zah (Zaa r6 y0).2.2.2.2.2.1.2 (w64 (Zaq (Zaa r4 y0).2.2.2.2.1 (w64 ((w64 ((w64 ((w64 ((m + (cntL (List.take y0 a):Int)) + 1)) + 1)) + 1)) + 1)) + 1)) + 1)) + 1)) + 1)) + 1)) + 1)) + 1)) + 1)))∧ix 17 y0 r15.length∧T3 (∀ r16:List Zad,r16=List.set r15 y0 ((Zaa r15 y0).1,(Zaa r15 y0).2.1,(Zaa r15 y0).2.2.1,(Zaa r15 y0).2.2.2.1,(Zaa r15 y0).2.2.2.2.1,(Zaa r15 y0).2.2.2.2.2.1,(Zaa r15 y0).2.2.2.2.2.2.1,(Zaa r15 y0).2.2.2.2.2.2.2.1,(Zaa r15 y0).2.2.2.2.2.2.2.2.1,(Zaa r15 y0).2.2.2.2.2.2.2.2.2.1,((Zaa r15 y0).2.2.2.2.2.2.2.2.2.2.1.1,Zcs (w64 ((w64 ((w64 ((w64 ((w64 (ZaB (Zaa r9 y0).2.2.2.2.2.2.2.2.1.1 (w64 ((w64 (Zah (Zaa r6 y0).2.2.2.2.2.1.2 (w64 (Zaq (Zaa r4 y0).2.2.2.2.1 (w64 ((w64 ((w64 ((w64 ((m + (cntL (List.take y0 a):Int)) + 1)) + 1)) + 1)) + 1)) + 1)) + 1)) + 1)) + 1)) + 1)) + 1)) + 1)) + 1))),(Zaa r15 y0).2.2.2.2.2.2.2.2.2.2.2)→T6 (ix 17 y0 r16.length∧T2 (∀ r17:List Zad,r17=List.set r16 y0 ((Zaa r16 y0).1,(Zaa r16 y0).2.1,(Zaa r16 y0).2.2.1,(Zaa r16 y0).2.2.2.1,(Zaa r16 y0).2.2.2.2.1,(Zaa r16 y0).2.2.2.2.2.1,(Zaa r16 y0).2.2.2.2.2.2.1,(Zaa r16 y0).2.2.2.2.2.2.2.1,(Zaa r16 y0).2.2.2.2.2.2.2.2.1,(Zaa r16 y0).2.2.2.2.2.2.2.2.2.1,(Zaa r16 y0).2.2.2.2.2.2.2.2.2.2.1,(w64 ((w64 ((w64 ((w64 ((w64 ((w64 (ZaB (Zaa r9 y0).2.2.2.2.2.2.2.2.1.1 (w64 ((w64 (Zah (Zaa r6 y0).2.2.2.2.2.1.2 (w64 (Zaq (Zaa r4 y0).2.2.2.2.1 (w64 ((w64 ((w64 ((w64 ((m + (cntL (List.take y0 a):Int)) + 1)) + 1)) + 1)) + 1)) + 1)) + 1)) + 1)) + 1)) + 1)) + 1)) + 1)) + 1)) + 1)))→T6 (∃ y0' : Nat,(y0'≤a.length)∧(a.length - y0') < (a.length - y0)∧lxs [.c (.row 0 0)] (vI (w64 ((w64 ((w64 ((w64 ((w64 ((w64 ((w64 (ZaB (Zaa r9 y0).2.2.2.2.2.2.2.2.1.1 (w64 ((w64 (Zah (Zaa r6 y0).2.2.2.2.2.1.2 (w64 (Zaq (Zaa r4 y0).2.2.2.2.1 (w64 ((w64 ((w64 ((w64 ((m + (cntL (List.take y0 a):Int)) + 1)) + 1)) + 1)) + 1)) + 1)) + 1)) + 1)) + 1)) + 1)) + 1)) + 1)) + 1)) + 1)) + 1)) (m + (cntL (List.take y0' a):Int))∧lxs [.tp [], .tp [],ci 0] (vI (w64 ((y0:Int) + 1)) y0'∧TN 150 (lxs [.tp []] True)))∧pt (leB (.row Zae r17 0 0 none) (.row Zae (Zbj a m y0') 0 0 none)∧True)))))))))))))))))))))))))))))))))))) else T2 (pt (((Zbj a m y0)=Zc8 a m∧True)∧cI (m + (cntL (List.take y0 a):Int)) (ZaP a m)))))) (by kernel_rfl) ?_
 unfold T2 T3 T4 T5 T6
 obtain ⟨hm0,hm1⟩:=hpre
 have hlm:a.length≤maxLen:=hwm.1.1
 unfold maxLen at hlm
 simp only [SIA,eq_self]
 refine ⟨⟨0,Nat.zero_le _,⟨by simp [cntL],rfl⟩,Eq.mpr (Za6 (t:=Zae)) (ZeV a m).symm⟩,fun k hk=>⟨fun hlt=>?_,fun hge=>?_⟩⟩
 ·have l0:(Zbj a m k).length=a.length:=ZcX a m k
  have hlt:k < a.length:=by omega
  have hg:a[k]?=some (Zaa a k):=Zat (t:=Zae) hlt
  have hc:cntL (List.take (k + 1) a)=cntL (List.take k a) + (1 + (1 + (1 + (1 + (cntL (Zaa a k).2.2.2.2.1 + (1 + (cntL (Zaa a k).2.2.2.2.2.1.2) + (1 + (1 + (cntL (Zaa a k).2.2.2.2.2.2.2.2.1.1 + (1 + (1)) + (1 + (1) + (1 + (1) + (1)))))))))))):=Zco hg
  have hcl:cntL (List.take (k + 1) a)≤cntL a:=ZdW a (k + 1)
  have hg0:(Zbj a m k)[k]?=some (Zaa a k):=Zgs hg
  have hk0:k < (Zbj a m k).length:=by omega
  have e0:Zaa (Zbj a m k) k=Zaa a k:=Zcb (t:=Zae) hg0
  try simp (disch:=omega) only [ZaX,ZaX,Zai,Zam,Zah,Zap,Zav,Zaw,Zau,ZaC,Zaq,ZaZ,ZaB,Zba,Za2,ZaP]
  repeat (refine ⟨by first | omega | exact ⟨by omega,by omega⟩ | exact ⟨by omega,by omega,by omega⟩,?_⟩)
  intro r1 h1
  have l1:r1.length=a.length:=by rw [h1,List.length_set]; exact l0
  try rw [e0] at h1
  try dsimp only at h1
  have e1:Zaa r1 k=_:=(congrArg (fun r=>Zaa r k) h1).trans (ZaH (t:=Zae) hk0)
  try rw [e1]
  try simp (disch:=omega) only [ZaX,ZaX,Zai,Zam,Zah,Zap,Zav,Zaw,Zau,ZaC,Zaq,ZaZ,ZaB,Zba,Za2,ZaP]
  repeat (refine ⟨by first | omega | exact ⟨by omega,by omega⟩ | exact ⟨by omega,by omega,by omega⟩,?_⟩)
  intro r2 h2
  have l2:r2.length=a.length:=by rw [h2,List.length_set]; exact l1
  try rw [e1] at h2
  try dsimp only at h2
  rw [h1,List.set_set] at h2
  have e2:Zaa r2 k=_:=(congrArg (fun r=>Zaa r k) h2).trans (ZaH (t:=Zae) hk0)
  try rw [e2]
  try simp (disch:=omega) only [ZaX,ZaX,Zai,Zam,Zah,Zap,Zav,Zaw,Zau,ZaC,Zaq,ZaZ,ZaB,Zba,Za2,ZaP]
  repeat (refine ⟨by first | omega | exact ⟨by omega,by omega⟩ | exact ⟨by omega,by omega,by omega⟩,?_⟩)
  intro r3 h3
  have l3:r3.length=a.length:=by rw [h3,List.length_set]; exact l2
  try rw [e2] at h3
  try dsimp only at h3
  rw [h2,List.set_set] at h3
  have e3:Zaa r3 k=_:=(congrArg (fun r=>Zaa r k) h3).trans (ZaH (t:=Zae) hk0)
  try rw [e3]
  try simp (disch:=omega) only [ZaX,ZaX,Zai,Zam,Zah,Zap,Zav,Zaw,Zau,ZaC,Zaq,ZaZ,ZaB,Zba,Za2,ZaP]
  repeat (refine ⟨by first | omega | exact ⟨by omega,by omega⟩ | exact ⟨by omega,by omega,by omega⟩,?_⟩)
  intro r4 h4
  have l4:r4.length=a.length:=by rw [h4,List.length_set]; exact l3
  try rw [e3] at h4
  try dsimp only at h4
  rw [h3,List.set_set] at h4
  have e4:Zaa r4 k=_:=(congrArg (fun r=>Zaa r k) h4).trans (ZaH (t:=Zae) hk0)
  try rw [e4]
  try simp (disch:=omega) only [ZaX,ZaX,Zai,Zam,Zah,Zap,Zav,Zaw,Zau,ZaC,Zaq,ZaZ,ZaB,Zba,Za2,ZaP]
  repeat (refine ⟨by first | omega | exact ⟨by omega,by omega⟩ | exact ⟨by omega,by omega,by omega⟩,?_⟩)
  intro r5 h5
  have l5:r5.length=a.length:=by rw [h5,List.length_set]; exact l4
  try rw [e4] at h5
  try dsimp only at h5
  rw [h4,List.set_set] at h5
  have e5:Zaa r5 k=_:=(congrArg (fun r=>Zaa r k) h5).trans (ZaH (t:=Zae) hk0)
  try rw [e5]
  try simp (disch:=omega) only [ZaX,ZaX,Zai,Zam,Zah,Zap,Zav,Zaw,Zau,ZaC,Zaq,ZaZ,ZaB,Zba,Za2,ZaP]
  repeat (refine ⟨by first | omega | exact ⟨by omega,by omega⟩ | exact ⟨by omega,by omega,by omega⟩,?_⟩)
  intro r6 h6
  have l6:r6.length=a.length:=by rw [h6,List.length_set]; exact l5
  try rw [e5] at h6
  try dsimp only at h6
  rw [h5,List.set_set] at h6
  have e6:Zaa r6 k=_:=(congrArg (fun r=>Zaa r k) h6).trans (ZaH (t:=Zae) hk0)
  try rw [e6]
  try simp (disch:=omega) only [ZaX,ZaX,Zai,Zam,Zah,Zap,Zav,Zaw,Zau,ZaC,Zaq,ZaZ,ZaB,Zba,Za2,ZaP]
  repeat (refine ⟨by first | omega | exact ⟨by omega,by omega⟩ | exact ⟨by omega,by omega,by omega⟩,?_⟩)
  intro r7 h7
  have l7:r7.length=a.length:=by rw [h7,List.length_set]; exact l6
  try rw [e6] at h7
  try dsimp only at h7
  rw [h6,List.set_set] at h7
  have e7:Zaa r7 k=_:=(congrArg (fun r=>Zaa r k) h7).trans (ZaH (t:=Zae) hk0)
  try rw [e7]
  try simp (disch:=omega) only [ZaX,ZaX,Zai,Zam,Zah,Zap,Zav,Zaw,Zau,ZaC,Zaq,ZaZ,ZaB,Zba,Za2,ZaP]
  repeat (refine ⟨by first | omega | exact ⟨by omega,by omega⟩ | exact ⟨by omega,by omega,by omega⟩,?_⟩)
  intro r8 h8
  have l8:r8.length=a.length:=by rw [h8,List.length_set]; exact l7
  try rw [e7] at h8
  try dsimp only at h8
  rw [h7,List.set_set] at h8
  have e8:Zaa r8 k=_:=(congrArg (fun r=>Zaa r k) h8).trans (ZaH (t:=Zae) hk0)
  try rw [e8]
  try simp (disch:=omega) only [ZaX,ZaX,Zai,Zam,Zah,Zap,Zav,Zaw,Zau,ZaC,Zaq,ZaZ,ZaB,Zba,Za2,ZaP]
  repeat (refine ⟨by first | omega | exact ⟨by omega,by omega⟩ | exact ⟨by omega,by omega,by omega⟩,?_⟩)
  intro r9 h9
  have l9:r9.length=a.length:=by rw [h9,List.length_set]; exact l8
  try rw [e8] at h9
  try dsimp only at h9
  rw [h8,List.set_set] at h9
  have e9:Zaa r9 k=_:=(congrArg (fun r=>Zaa r k) h9).trans (ZaH (t:=Zae) hk0)
  try rw [e9]
  try simp (disch:=omega) only [ZaX,ZaX,Zai,Zam,Zah,Zap,Zav,Zaw,Zau,ZaC,Zaq,ZaZ,ZaB,Zba,Za2,ZaP]
  repeat (refine ⟨by first | omega | exact ⟨by omega,by omega⟩ | exact ⟨by omega,by omega,by omega⟩,?_⟩)
  intro r10 h10
  have l10:r10.length=a.length:=by rw [h10,List.length_set]; exact l9
  try rw [e9] at h10
  try dsimp only at h10
  rw [h9,List.set_set] at h10
  have e10:Zaa r10 k=_:=(congrArg (fun r=>Zaa r k) h10).trans (ZaH (t:=Zae) hk0)
  try rw [e10]
  try simp (disch:=omega) only [ZaX,ZaX,Zai,Zam,Zah,Zap,Zav,Zaw,Zau,ZaC,Zaq,ZaZ,ZaB,Zba,Za2,ZaP]
  repeat (refine ⟨by first | omega | exact ⟨by omega,by omega⟩ | exact ⟨by omega,by omega,by omega⟩,?_⟩)
  intro r11 h11
  have l11:r11.length=a.length:=by rw [h11,List.length_set]; exact l10
  try rw [e10] at h11
  try dsimp only at h11
  rw [h10,List.set_set] at h11
  have e11:Zaa r11 k=_:=(congrArg (fun r=>Zaa r k) h11).trans (ZaH (t:=Zae) hk0)
  try rw [e11]
  try simp (disch:=omega) only [ZaX,ZaX,Zai,Zam,Zah,Zap,Zav,Zaw,Zau,ZaC,Zaq,ZaZ,ZaB,Zba,Za2,ZaP]
  repeat (refine ⟨by first | omega | exact ⟨by omega,by omega⟩ | exact ⟨by omega,by omega,by omega⟩,?_⟩)
  intro r12 h12
  have l12:r12.length=a.length:=by rw [h12,List.length_set]; exact l11
  try rw [e11] at h12
  try dsimp only at h12
  rw [h11,List.set_set] at h12
  have e12:Zaa r12 k=_:=(congrArg (fun r=>Zaa r k) h12).trans (ZaH (t:=Zae) hk0)
  try rw [e12]
  try simp (disch:=omega) only [ZaX,ZaX,Zai,Zam,Zah,Zap,Zav,Zaw,Zau,ZaC,Zaq,ZaZ,ZaB,Zba,Za2,ZaP]
  repeat (refine ⟨by first | omega | exact ⟨by omega,by omega⟩ | exact ⟨by omega,by omega,by omega⟩,?_⟩)
  intro r13 h13
  have l13:r13.length=a.length:=by rw [h13,List.length_set]; exact l12
  try rw [e12] at h13
  try dsimp only at h13
  rw [h12,List.set_set] at h13
  have e13:Zaa r13 k=_:=(congrArg (fun r=>Zaa r k) h13).trans (ZaH (t:=Zae) hk0)
  try rw [e13]
  try simp (disch:=omega) only [ZaX,ZaX,Zai,Zam,Zah,Zap,Zav,Zaw,Zau,ZaC,Zaq,ZaZ,ZaB,Zba,Za2,ZaP]
  repeat (refine ⟨by first | omega | exact ⟨by omega,by omega⟩ | exact ⟨by omega,by omega,by omega⟩,?_⟩)
  intro r14 h14
  have l14:r14.length=a.length:=by rw [h14,List.length_set]; exact l13
  try rw [e13] at h14
  try dsimp only at h14
  rw [h13,List.set_set] at h14
  have e14:Zaa r14 k=_:=(congrArg (fun r=>Zaa r k) h14).trans (ZaH (t:=Zae) hk0)
  try rw [e14]
  try simp (disch:=omega) only [ZaX,ZaX,Zai,Zam,Zah,Zap,Zav,Zaw,Zau,ZaC,Zaq,ZaZ,ZaB,Zba,Za2,ZaP]
  repeat (refine ⟨by first | omega | exact ⟨by omega,by omega⟩ | exact ⟨by omega,by omega,by omega⟩,?_⟩)
  intro r15 h15
  have l15:r15.length=a.length:=by rw [h15,List.length_set]; exact l14
  try rw [e14] at h15
  try dsimp only at h15
  rw [h14,List.set_set] at h15
  have e15:Zaa r15 k=_:=(congrArg (fun r=>Zaa r k) h15).trans (ZaH (t:=Zae) hk0)
  try rw [e15]
  try simp (disch:=omega) only [ZaX,ZaX,Zai,Zam,Zah,Zap,Zav,Zaw,Zau,ZaC,Zaq,ZaZ,ZaB,Zba,Za2,ZaP]
  repeat (refine ⟨by first | omega | exact ⟨by omega,by omega⟩ | exact ⟨by omega,by omega,by omega⟩,?_⟩)
  intro r16 h16
  have l16:r16.length=a.length:=by rw [h16,List.length_set]; exact l15
  try rw [e15] at h16
  try dsimp only at h16
  rw [h15,List.set_set] at h16
  have e16:Zaa r16 k=_:=(congrArg (fun r=>Zaa r k) h16).trans (ZaH (t:=Zae) hk0)
  try rw [e16]
  try simp (disch:=omega) only [ZaX,ZaX,Zai,Zam,Zah,Zap,Zav,Zaw,Zau,ZaC,Zaq,ZaZ,ZaB,Zba,Za2,ZaP]
  repeat (refine ⟨by first | omega | exact ⟨by omega,by omega⟩ | exact ⟨by omega,by omega,by omega⟩,?_⟩)
  intro r17 h17
  have l17:r17.length=a.length:=by rw [h17,List.length_set]; exact l16
  try rw [e16] at h17
  try dsimp only at h17
  rw [h16,List.set_set] at h17
  have e17:Zaa r17 k=_:=(congrArg (fun r=>Zaa r k) h17).trans (ZaH (t:=Zae) hk0)
  try rw [e17]
  try simp (disch:=omega) only [ZaX,ZaX,Zai,Zam,Zah,Zap,Zav,Zaw,Zau,ZaC,Zaq,ZaZ,ZaB,Zba,Za2,ZaP]
  refine ⟨k + 1,hlt,by clear e1 h1 l1 r1 e2 h2 l2 r2 e3 h3 l3 r3 e4 h4 l4 r4 e5 h5 l5 r5 e6 h6 l6 r6 e7 h7 l7 r7 e8 h8 l8 r8 e9 h9 l9 r9 e10 h10 l10 r10 e11 h11 l11 r11 e12 h12 l12 r12 e13 h13 l13 r13 e14 h14 l14 r14 e15 h15 l15 r15 e16 h16 l16 r16 e17 h17 l17 r17; omega,⟨by clear e1 h1 l1 r1 e2 h2 l2 r2 e3 h3 l3 r3 e4 h4 l4 r4 e5 h5 l5 r5 e6 h6 l6 r6 e7 h7 l7 r7 e8 h8 l8 r8 e9 h9 l9 r9 e10 h10 l10 r10 e11 h11 l11 r11 e12 h12 l12 r12 e13 h13 l13 r13 e14 h14 l14 r14 e15 h15 l15 r15 e16 h16 l16 r16 e17 h17 l17 r17; first | omega | (simp (disch:=omega) only [ZaX,ZaX,Zai,Zam,Zah,Zap,Zav,Zaw,Zau,ZaC,Zaq,ZaZ,ZaB,Zba,Za2,ZaP]; omega),by clear e1 h1 l1 r1 e2 h2 l2 r2 e3 h3 l3 r3 e4 h4 l4 r4 e5 h5 l5 r5 e6 h6 l6 r6 e7 h7 l7 r7 e8 h8 l8 r8 e9 h9 l9 r9 e10 h10 l10 r10 e11 h11 l11 r11 e12 h12 l12 r12 e13 h13 l13 r13 e14 h14 l14 r14 e15 h15 l15 r15 e16 h16 l16 r16 e17 h17 l17 r17; first | omega | exact Zbs (by unfold maxLen; omega)⟩,Eq.mpr (Za6 (t:=Zae)) (h17.trans (Zgt hg ?_))⟩
  exact ZeW
 ·have l0:(Zbj a m k).length=a.length:=ZcX a m k
  exact ZeZ
def Zor:Zdb Tryz.prog:=⟨27,[(.q false (.list Zae)),(.a (.v Zax))],fun x=>ZeM x.1 x.2.1,fun x=>(Zc8 x.1 x.2.1,x.2.1,()),fun x=>.c (.int .i64 (ZaP x.1 x.2.1)),fun _=>[],fun x hx=>Zoq x.1 x.2.1 hx,Tryz.call27⟩
abbrev Zb7 (a:ZaT) (m:Int):Int:=m + ((cntI a:Nat):Int)
abbrev ZbD (a:ZaT) (m:Int):ZaT:=mrkI a m
abbrev Zev (a:ZaT) (m:Int):Prop:=0≤m∧m + cntI a≤4611686018427387904
theorem Zr9 (a:ZaT) (m:Int) (hpre:Zev a m):Zep Tryz.prog 10 (Zd7 0 [(.q true Zbm),(.a (.v Zax))] (a,m,())) (Zh3 0 [(.q true Zbm),(.a (.v Zax))] (a,m,())) (Zfj 0 [(.q true Zbm),(.a (.v Zax))] (ZbD a m,m,()) ++ []) (inpM 0 [(.q true Zbm),(.a (.v Zax))]) (.c (.int .i64 (Zb7 a m))):=by
 refine Zdu (T:=⟨[],[],[],[Zui,Zor],none,fun _=>[],3,[0,1,2],[]⟩) (L:=L0) Tryz.func10 rfl rfl rfl (by kernel_rfl) (fun hwf hwm=>?_)
 refine Eq.mpr (β:=T5 (pt (ZgI a.1 m∧(a.1.1=a.1.1∧a.1.2.1=a.1.2.1∧cI a.1.2.2 a.1.2.2∧True)∧True)∧∀ r0:List ZaO,r0=(Zcx a.1 m).1→∀ r1:List ZaA,r1=(Zcx a.1 m).2.1→T4 (pt (ZeM a.2 (ZaC a.1 m)∧a.2=a.2∧True)∧∀ r2:List Zad,r2=Zc8 a.2 (ZaC a.1 m)→T3 (pt ((r0=(ZbD a m).1.1∧r1=(ZbD a m).1.2.1∧r2=(ZbD a m).2∧True)∧cI (ZaP a.2 (ZaC a.1 m)) (Zb7 a m)))))) (by kernel_rfl) ?_
 unfold T3 T4 T5
 obtain ⟨hm0,hm1⟩:=hpre
 have hc0:cntI a=cntL a.1.1 + (cntL a.1.2.1 + (0)) + (cntL a.2):=rfl
 have hc1:cntI a.1=cntL a.1.1 + (cntL a.1.2.1 + (0)):=rfl
 simp only [SIA,eq_self]
 simp only [ZaX,Zai,Zam,Zah,Zap,Zav,Zaw,Zau,ZaC,Zaq,ZaZ,ZaB,Zba,Za2,ZaP,Zb7,ZcM,Zdn,Zc4,Zi3,ZdO,ZdP,ZcN,Zcx,Zd3,Zr8,Zd4,Zps,Zm6,Zc8,ZbD]
 exact Zzy
def Zsa:Zdb Tryz.prog:=⟨10,[(.q true Zbm),(.a (.v Zax))],fun x=>Zev x.1 x.2.1,fun x=>(ZbD x.1 x.2.1,x.2.1,()),fun x=>.c (.int .i64 (Zb7 x.1 x.2.1)),fun _=>[],fun x hx=>Zr9 x.1 x.2.1 hx,Tryz.call10⟩
end Go.Proofs.YtafhbjjcpncfnaaGreat
