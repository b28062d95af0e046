import Derived.Test.YtafhbjjcpncfnaaGreatIBmTy
set_option linter.unusedSimpArgs false
set_option linter.unusedVariables false
set_option maxRecDepth 100000
set_option maxHeartbeats 4000000
namespace Go.Proofs.YtafhbjjcpncfnaaGreat
open Go.ChangeShapes Go.WideShapes Go.ChangeAt Go.RowKit Go.Joins Go.Deep
open GoRep (rep bulk)
def ZeH (p:ZaW→Bool) (xs:List ZaW):Nat→List AV→Mem→Zbd
 | 2,tm,M=>⟨Nat,fun y=>(Zcf (Zct tm [(4, .any),(5, .any),(8, .c (.int .i64 ((y:Nat):Int)))]) 9 10,M),fun y=>(y≤List.length xs∧∀ j,j < y→p (Zas xs j)=false),fun y=>(List.length xs - y)⟩
 | _,_,_=>⟨Unit,fun _=>([],[]),fun _=>False,fun _=>0⟩
theorem ZeI (p:ZaW→Bool) (xs:List ZaW) (u:Value) (X:List Nat) (W:World) (v:Value) (hsz:∀ b ∈ X,b < W.heap.size) (hgl:Zko W []) (hv:Zb3 X W [] [] (.hs .no Zak xs) v) (hc:Zk4 X W Tryz.prog u true Zak p) :
 Calls Tryz.prog 221 #[v,u] W (fun e W'=>∃ v E',e=.returned v∧ZbU W [] W' E'∧RepM X W' E' []∧Zc5 X W' E' [] (.c (.int .i64 (Zf0 p xs))) v):=by
 obtain ⟨g,caps,rfl,ent,hc⟩:=hc
 refine Zeq (T:=⟨[],[],[],[],some ⟨_,g,caps,rfl,[.s Zak],fun x=>.c (.bool (p x.1)),ent⟩,fun _=>[],0,[],[]⟩) (L:=(ZeH p xs)) (args:=[.c (.hs .no Zak xs), .c (.raw ((Value.func (.func g) #[] caps.toArray)))]) Tryz.func221 ⟨rfl,rfl⟩ (fun c hc'=>?_) hsz hgl ⟨v,_,rfl,hv,_,[],rfl,⟨rfl,rfl⟩,rfl⟩ (fun hwf=>?_)
 ·exact ZfL
 refine Eq.mpr (β:=T4 ((∃ q:Nat,(q≤xs.length∧∀ j,j < q→p (Zas xs j)=false)∧lxs [hn Zak xs, .c (.raw ((Value.func (.func g) #[] caps.toArray))), .tp [], .tp []] (True∧True∧lxs [hn Zak xs,ci xs.length] (vI 0 q∧TN 10 True))∧pt (True))∧∀ y0:Nat,(y0≤xs.length∧∀ j,j < y0→p (Zas xs j)=false)→True∧bif ltI y0 xs.length then T5 (ix 3 y0 xs.length∧True∧pt ((Value.func (.func g) #[] caps.toArray)=(Value.func (.func g) #[] caps.toArray))∧bif p (Zas xs y0) then T2 (pt (cI y0 (Zf0 p xs))) else T2 (∃ y0' : Nat,(y0'≤xs.length∧∀ j,j < y0'→p (Zas xs j)=false)∧(xs.length - y0') < (xs.length - y0)∧lxs [hn Zak xs, .c (.raw ((Value.func (.func g) #[] caps.toArray))), .tp [], .tp []] (True∧True∧lxs [hn Zak xs,ci xs.length] (vI (w64 ((y0:Int) + 1)) y0'∧TN 10 True))∧pt (True))) else True∧pt (cI (-1) (Zf0 p xs)))) (by kernel_rfl) ?_
 simp only [SIA,eq_self]
 have hm:xs.length≤maxLen:=hwf.1.1
 refine ⟨⟨0,⟨Nat.zero_le _,Za3⟩,rfl⟩,fun k hk=>⟨fun hlt=>⟨by omega,fun hp=>?_,fun hp=>?_⟩,fun hge=>?_⟩⟩
 ·have hk' : k < xs.length:=by omega
  exact (Zfu (t:=Zak) hk' hk.2 hp).symm
 ·exact Zdw
 ·obtain rfl:k=xs.length:=by omega
  exact (Zcv (t:=Zak) hk.2).symm
def ZeJ:Zhy Tryz.prog:=⟨221,Zak,true,fun p xs=>.int .i64 (Zf0 p xs),ZeI,Tryz.call221⟩
theorem Zej (p:ZaW→Bool) (xs:List ZaW) (u:Value) (X:List Nat) (W:World) (v:Value) (hsz:∀ b ∈ X,b < W.heap.size) (hgl:Zko W []) (hv:Zb3 X W [] [] (.hs .no Zak xs) v) (hc:Zk4 X W Tryz.prog u true Zak p) :
 Calls Tryz.prog 173 #[v,u] W (fun e W'=>∃ v E',e=.returned v∧ZbU W [] W' E'∧RepM X W' E' []∧Zc5 X W' E' [] (.c (.bool (List.any xs p))) v):=by
 obtain ⟨g,caps,rfl,ent,hc⟩:=hc
 refine Zeq (T:=⟨[],[ZeJ],[],[],some ⟨_,g,caps,rfl,[.s Zak],fun x=>.c (.bool (p x.1)),ent⟩,fun _=>[],0,[],[]⟩) (L:=L0) (args:=[.c (.hs .no Zak xs), .c (.raw ((Value.func (.func g) #[] caps.toArray)))]) Tryz.func173 ⟨rfl,rfl⟩ (fun c hc'=>?_) hsz hgl ⟨v,_,rfl,hv,_,[],rfl,⟨rfl,rfl⟩,rfl⟩ (fun hwf=>?_)
 ·exact ZfL
 refine Eq.mpr (β:=T3 (((Value.func (.func g) #[] caps.toArray)=(Value.func (.func g) #[] caps.toArray)∧(∀ z0:ZaW,True)∧∀ (_:ZaW→Bool) (_:List ZaW),true=true)∧T2 (pt (cB (geI (Zf0 (fun z0:ZaW=>(p z0)) xs) 0) (List.any xs p))))) (by kernel_rfl) ?_
 exact Zrs
def Zek:Zhy Tryz.prog:=⟨173,Zak,true,fun p xs=>.bool (List.any xs p),Zej,Tryz.call173⟩
def ZfB (p:ZaO→Bool) (xs:List ZaO):Nat→List AV→Mem→Zbd
 | 2,tm,M=>⟨Nat,fun y=>(Zcf (Zct tm [(4, .any),(5, .any),(8, .c (.int .i64 ((y:Nat):Int)))]) 9 10,M),fun y=>(y≤List.length xs∧∀ j,j < y→p (Zab xs j)=false),fun y=>(List.length xs - y)⟩
 | _,_,_=>⟨Unit,fun _=>([],[]),fun _=>False,fun _=>0⟩
theorem ZfC (p:ZaO→Bool) (xs:List ZaO) (u:Value) (X:List Nat) (W:World) (v:Value) (hsz:∀ b ∈ X,b < W.heap.size) (hgl:Zko W []) (hv:Zb3 X W [] [] (.hs .no Zaj xs) v) (hc:Zk4 X W Tryz.prog u true Zaj p) :
 Calls Tryz.prog 182 #[v,u] W (fun e W'=>∃ v E',e=.returned v∧ZbU W [] W' E'∧RepM X W' E' []∧Zc5 X W' E' [] (.c (.int .i64 (Zf0 p xs))) v):=by
 obtain ⟨g,caps,rfl,ent,hc⟩:=hc
 refine Zeq (T:=⟨[],[],[],[],some ⟨_,g,caps,rfl,[.s Zaj],fun x=>.c (.bool (p x.1)),ent⟩,fun _=>[],0,[],[]⟩) (L:=(ZfB p xs)) (args:=[.c (.hs .no Zaj xs), .c (.raw ((Value.func (.func g) #[] caps.toArray)))]) Tryz.func182 ⟨rfl,rfl⟩ (fun c hc'=>?_) hsz hgl ⟨v,_,rfl,hv,_,[],rfl,⟨rfl,rfl⟩,rfl⟩ (fun hwf=>?_)
 ·exact ZfL
 refine Eq.mpr (β:=T4 ((∃ q:Nat,(q≤xs.length∧∀ j,j < q→p (Zab xs j)=false)∧lxs [hn Zaj xs, .c (.raw ((Value.func (.func g) #[] caps.toArray))), .tp [], .tp []] (True∧True∧lxs [hn Zaj xs,ci xs.length] (vI 0 q∧TN 10 True))∧pt (True))∧∀ y0:Nat,(y0≤xs.length∧∀ j,j < y0→p (Zab xs j)=false)→True∧bif ltI y0 xs.length then T5 (ix 4 y0 xs.length∧True∧pt ((Value.func (.func g) #[] caps.toArray)=(Value.func (.func g) #[] caps.toArray))∧bif p (Zab xs y0) then T2 (pt (cI y0 (Zf0 p xs))) else T2 (∃ y0' : Nat,(y0'≤xs.length∧∀ j,j < y0'→p (Zab xs j)=false)∧(xs.length - y0') < (xs.length - y0)∧lxs [hn Zaj xs, .c (.raw ((Value.func (.func g) #[] caps.toArray))), .tp [], .tp []] (True∧True∧lxs [hn Zaj xs,ci xs.length] (vI (w64 ((y0:Int) + 1)) y0'∧TN 10 True))∧pt (True))) else True∧pt (cI (-1) (Zf0 p xs)))) (by kernel_rfl) ?_
 simp only [SIA,eq_self]
 have hm:xs.length≤maxLen:=hwf.1.1
 refine ⟨⟨0,⟨Nat.zero_le _,Za3⟩,rfl⟩,fun k hk=>⟨fun hlt=>⟨by omega,fun hp=>?_,fun hp=>?_⟩,fun hge=>?_⟩⟩
 ·have hk' : k < xs.length:=by omega
  exact (Zfu (t:=Zaj) hk' hk.2 hp).symm
 ·exact Zdw
 ·obtain rfl:k=xs.length:=by omega
  exact (Zcv (t:=Zaj) hk.2).symm
def Zdz:Zhy Tryz.prog:=⟨182,Zaj,true,fun p xs=>.int .i64 (Zf0 p xs),ZfC,Tryz.call182⟩
def Ze5 (p:ZaM→Bool) (xs:List ZaM):Nat→List AV→Mem→Zbd
 | 2,tm,M=>⟨Nat,fun y=>(Zcf (Zct tm [(4, .any),(5, .any),(8, .c (.int .i64 ((y:Nat):Int)))]) 9 10,M),fun y=>(y≤List.length xs∧∀ j,j < y→p (Zaf xs j)=false),fun y=>(List.length xs - y)⟩
 | _,_,_=>⟨Unit,fun _=>([],[]),fun _=>False,fun _=>0⟩
theorem Ze6 (p:ZaM→Bool) (xs:List ZaM) (u:Value) (X:List Nat) (W:World) (v:Value) (hsz:∀ b ∈ X,b < W.heap.size) (hgl:Zko W []) (hv:Zb3 X W [] [] (.hs .no Zal xs) v) (hc:Zk4 X W Tryz.prog u true Zal p) :
 Calls Tryz.prog 225 #[v,u] W (fun e W'=>∃ v E',e=.returned v∧ZbU W [] W' E'∧RepM X W' E' []∧Zc5 X W' E' [] (.c (.int .i64 (Zf0 p xs))) v):=by
 obtain ⟨g,caps,rfl,ent,hc⟩:=hc
 refine Zeq (T:=⟨[],[],[],[],some ⟨_,g,caps,rfl,[.s Zal],fun x=>.c (.bool (p x.1)),ent⟩,fun _=>[],0,[],[]⟩) (L:=(Ze5 p xs)) (args:=[.c (.hs .no Zal xs), .c (.raw ((Value.func (.func g) #[] caps.toArray)))]) Tryz.func225 ⟨rfl,rfl⟩ (fun c hc'=>?_) hsz hgl ⟨v,_,rfl,hv,_,[],rfl,⟨rfl,rfl⟩,rfl⟩ (fun hwf=>?_)
 ·exact ZfL
 refine Eq.mpr (β:=T4 ((∃ q:Nat,(q≤xs.length∧∀ j,j < q→p (Zaf xs j)=false)∧lxs [hn Zal xs, .c (.raw ((Value.func (.func g) #[] caps.toArray))), .tp [], .tp []] (True∧True∧lxs [hn Zal xs,ci xs.length] (vI 0 q∧TN 10 True))∧pt (True))∧∀ y0:Nat,(y0≤xs.length∧∀ j,j < y0→p (Zaf xs j)=false)→True∧bif ltI y0 xs.length then T5 (ix 4 y0 xs.length∧True∧pt ((Value.func (.func g) #[] caps.toArray)=(Value.func (.func g) #[] caps.toArray))∧bif p (Zaf xs y0) then T2 (pt (cI y0 (Zf0 p xs))) else T2 (∃ y0' : Nat,(y0'≤xs.length∧∀ j,j < y0'→p (Zaf xs j)=false)∧(xs.length - y0') < (xs.length - y0)∧lxs [hn Zal xs, .c (.raw ((Value.func (.func g) #[] caps.toArray))), .tp [], .tp []] (True∧True∧lxs [hn Zal xs,ci xs.length] (vI (w64 ((y0:Int) + 1)) y0'∧TN 10 True))∧pt (True))) else True∧pt (cI (-1) (Zf0 p xs)))) (by kernel_rfl) ?_
 simp only [SIA,eq_self]
 have hm:xs.length≤maxLen:=hwf.1.1
 refine ⟨⟨0,⟨Nat.zero_le _,Za3⟩,rfl⟩,fun k hk=>⟨fun hlt=>⟨by omega,fun hp=>?_,fun hp=>?_⟩,fun hge=>?_⟩⟩
 ·have hk' : k < xs.length:=by omega
  exact (Zfu (t:=Zal) hk' hk.2 hp).symm
 ·exact Zdw
 ·obtain rfl:k=xs.length:=by omega
  exact (Zcv (t:=Zal) hk.2).symm
def Ze7:Zhy Tryz.prog:=⟨225,Zal,true,fun p xs=>.int .i64 (Zf0 p xs),Ze6,Tryz.call225⟩
theorem Zez (p:ZaM→Bool) (xs:List ZaM) (u:Value) (X:List Nat) (W:World) (v:Value) (hsz:∀ b ∈ X,b < W.heap.size) (hgl:Zko W []) (hv:Zb3 X W [] [] (.hs .no Zal xs) v) (hc:Zk4 X W Tryz.prog u true Zal p) :
 Calls Tryz.prog 180 #[v,u] W (fun e W'=>∃ v E',e=.returned v∧ZbU W [] W' E'∧RepM X W' E' []∧Zc5 X W' E' [] (.c (.bool (List.any xs p))) v):=by
 obtain ⟨g,caps,rfl,ent,hc⟩:=hc
 refine Zeq (T:=⟨[],[Ze7],[],[],some ⟨_,g,caps,rfl,[.s Zal],fun x=>.c (.bool (p x.1)),ent⟩,fun _=>[],0,[],[]⟩) (L:=L0) (args:=[.c (.hs .no Zal xs), .c (.raw ((Value.func (.func g) #[] caps.toArray)))]) Tryz.func180 ⟨rfl,rfl⟩ (fun c hc'=>?_) hsz hgl ⟨v,_,rfl,hv,_,[],rfl,⟨rfl,rfl⟩,rfl⟩ (fun hwf=>?_)
 ·exact ZfL
 refine Eq.mpr (β:=T3 (((Value.func (.func g) #[] caps.toArray)=(Value.func (.func g) #[] caps.toArray)∧(∀ z0:ZaM,True)∧∀ (_:ZaM→Bool) (_:List ZaM),true=true)∧T2 (pt (cB (geI (Zf0 (fun z0:ZaM=>(p z0)) xs) 0) (List.any xs p))))) (by kernel_rfl) ?_
 exact Zrs
def ZeA:Zhy Tryz.prog:=⟨180,Zal,true,fun p xs=>.bool (List.any xs p),Zez,Tryz.call180⟩
def ZfD (p:Zdr→Bool) (xs:List Zdr):Nat→List AV→Mem→Zbd
 | 2,tm,M=>⟨Nat,fun y=>(Zcf (Zct tm [(4, .any),(5, .any),(8, .c (.int .i64 ((y:Nat):Int)))]) 9 10,M),fun y=>(y≤List.length xs∧∀ j,j < y→p (ZaG xs j)=false),fun y=>(List.length xs - y)⟩
 | _,_,_=>⟨Unit,fun _=>([],[]),fun _=>False,fun _=>0⟩
theorem ZfE (p:Zdr→Bool) (xs:List Zdr) (u:Value) (X:List Nat) (W:World) (v:Value) (hsz:∀ b ∈ X,b < W.heap.size) (hgl:Zko W []) (hv:Zb3 X W [] [] (.hs .no ZaR xs) v) (hc:Zk4 X W Tryz.prog u true ZaR p) :
 Calls Tryz.prog 237 #[v,u] W (fun e W'=>∃ v E',e=.returned v∧ZbU W [] W' E'∧RepM X W' E' []∧Zc5 X W' E' [] (.c (.int .i64 (Zf0 p xs))) v):=by
 obtain ⟨g,caps,rfl,ent,hc⟩:=hc
 refine Zeq (T:=⟨[],[],[],[],some ⟨_,g,caps,rfl,[.s ZaR],fun x=>.c (.bool (p x.1)),ent⟩,fun _=>[],0,[],[]⟩) (L:=(ZfD p xs)) (args:=[.c (.hs .no ZaR xs), .c (.raw ((Value.func (.func g) #[] caps.toArray)))]) Tryz.func237 ⟨rfl,rfl⟩ (fun c hc'=>?_) hsz hgl ⟨v,_,rfl,hv,_,[],rfl,⟨rfl,rfl⟩,rfl⟩ (fun hwf=>?_)
 ·exact ZfL
 refine Eq.mpr (β:=T4 ((∃ q:Nat,(q≤xs.length∧∀ j,j < q→p (ZaG xs j)=false)∧lxs [hn ZaR xs, .c (.raw ((Value.func (.func g) #[] caps.toArray))), .tp [], .tp []] (True∧True∧lxs [hn ZaR xs,ci xs.length] (vI 0 q∧TN 10 True))∧pt (True))∧∀ y0:Nat,(y0≤xs.length∧∀ j,j < y0→p (ZaG xs j)=false)→True∧bif ltI y0 xs.length then T5 (ix 3 y0 xs.length∧True∧pt ((Value.func (.func g) #[] caps.toArray)=(Value.func (.func g) #[] caps.toArray))∧bif p (ZaG xs y0) then T2 (pt (cI y0 (Zf0 p xs))) else T2 (∃ y0' : Nat,(y0'≤xs.length∧∀ j,j < y0'→p (ZaG xs j)=false)∧(xs.length - y0') < (xs.length - y0)∧lxs [hn ZaR xs, .c (.raw ((Value.func (.func g) #[] caps.toArray))), .tp [], .tp []] (True∧True∧lxs [hn ZaR xs,ci xs.length] (vI (w64 ((y0:Int) + 1)) y0'∧TN 10 True))∧pt (True))) else True∧pt (cI (-1) (Zf0 p xs)))) (by kernel_rfl) ?_
 simp only [SIA,eq_self]
 have hm:xs.length≤maxLen:=hwf.1.1
 refine ⟨⟨0,⟨Nat.zero_le _,Za3⟩,rfl⟩,fun k hk=>⟨fun hlt=>⟨by omega,fun hp=>?_,fun hp=>?_⟩,fun hge=>?_⟩⟩
 ·have hk' : k < xs.length:=by omega
  exact (Zfu (t:=ZaR) hk' hk.2 hp).symm
 ·exact Zdw
 ·obtain rfl:k=xs.length:=by omega
  exact (Zcv (t:=ZaR) hk.2).symm
def ZfF:Zhy Tryz.prog:=⟨237,ZaR,true,fun p xs=>.int .i64 (Zf0 p xs),ZfE,Tryz.call237⟩
def Zed (p:Zad→Bool) (xs:List Zad):Nat→List AV→Mem→Zbd
 | 2,tm,M=>⟨Nat,fun y=>(Zcf (Zct tm [(4, .any),(5, .any),(8, .c (.int .i64 ((y:Nat):Int)))]) 9 10,M),fun y=>(y≤List.length xs∧∀ j,j < y→p (Zaa xs j)=false),fun y=>(List.length xs - y)⟩
 | _,_,_=>⟨Unit,fun _=>([],[]),fun _=>False,fun _=>0⟩
theorem Zee (p:Zad→Bool) (xs:List Zad) (u:Value) (X:List Nat) (W:World) (v:Value) (hsz:∀ b ∈ X,b < W.heap.size) (hgl:Zko W []) (hv:Zb3 X W [] [] (.hs .no Zae xs) v) (hc:Zk4 X W Tryz.prog u true Zae p) :
 Calls Tryz.prog 110 #[v,u] W (fun e W'=>∃ v E',e=.returned v∧ZbU W [] W' E'∧RepM X W' E' []∧Zc5 X W' E' [] (.c (.int .i64 (Zf0 p xs))) v):=by
 obtain ⟨g,caps,rfl,ent,hc⟩:=hc
 refine Zeq (T:=⟨[],[],[],[],some ⟨_,g,caps,rfl,[.s Zae],fun x=>.c (.bool (p x.1)),ent⟩,fun _=>[],0,[],[]⟩) (L:=(Zed p xs)) (args:=[.c (.hs .no Zae xs), .c (.raw ((Value.func (.func g) #[] caps.toArray)))]) Tryz.func110 ⟨rfl,rfl⟩ (fun c hc'=>?_) hsz hgl ⟨v,_,rfl,hv,_,[],rfl,⟨rfl,rfl⟩,rfl⟩ (fun hwf=>?_)
 ·exact ZfL
 refine Eq.mpr (β:=T4 ((∃ q:Nat,(q≤xs.length∧∀ j,j < q→p (Zaa xs j)=false)∧lxs [hn Zae xs, .c (.raw ((Value.func (.func g) #[] caps.toArray))), .tp [], .tp []] (True∧True∧lxs [hn Zae xs,ci xs.length] (vI 0 q∧TN 10 True))∧pt (True))∧∀ y0:Nat,(y0≤xs.length∧∀ j,j < y0→p (Zaa xs j)=false)→True∧bif ltI y0 xs.length then T5 (ix 17 y0 xs.length∧True∧pt ((Value.func (.func g) #[] caps.toArray)=(Value.func (.func g) #[] caps.toArray))∧bif p (Zaa xs y0) then T2 (pt (cI y0 (Zf0 p xs))) else T2 (∃ y0' : Nat,(y0'≤xs.length∧∀ j,j < y0'→p (Zaa xs j)=false)∧(xs.length - y0') < (xs.length - y0)∧lxs [hn Zae xs, .c (.raw ((Value.func (.func g) #[] caps.toArray))), .tp [], .tp []] (True∧True∧lxs [hn Zae xs,ci xs.length] (vI (w64 ((y0:Int) + 1)) y0'∧TN 10 True))∧pt (True))) else True∧pt (cI (-1) (Zf0 p xs)))) (by kernel_rfl) ?_
 simp only [SIA,eq_self]
 have hm:xs.length≤maxLen:=hwf.1.1
 refine ⟨⟨0,⟨Nat.zero_le _,Za3⟩,rfl⟩,fun k hk=>⟨fun hlt=>⟨by omega,fun hp=>?_,fun hp=>?_⟩,fun hge=>?_⟩⟩
 ·have hk' : k < xs.length:=by omega
  exact (Zfu (t:=Zae) hk' hk.2 hp).symm
 ·exact Zdw
 ·obtain rfl:k=xs.length:=by omega
  exact (Zcv (t:=Zae) hk.2).symm
def Zef:Zhy Tryz.prog:=⟨110,Zae,true,fun p xs=>.int .i64 (Zf0 p xs),Zee,Tryz.call110⟩
theorem ZdU (p:Zad→Bool) (xs:List Zad) (u:Value) (X:List Nat) (W:World) (v:Value) (hsz:∀ b ∈ X,b < W.heap.size) (hgl:Zko W []) (hv:Zb3 X W [] [] (.hs .no Zae xs) v) (hc:Zk4 X W Tryz.prog u true Zae p) :
 Calls Tryz.prog 45 #[v,u] W (fun e W'=>∃ v E',e=.returned v∧ZbU W [] W' E'∧RepM X W' E' []∧Zc5 X W' E' [] (.c (.bool (List.any xs p))) v):=by
 obtain ⟨g,caps,rfl,ent,hc⟩:=hc
 refine Zeq (T:=⟨[],[Zef],[],[],some ⟨_,g,caps,rfl,[.s Zae],fun x=>.c (.bool (p x.1)),ent⟩,fun _=>[],0,[],[]⟩) (L:=L0) (args:=[.c (.hs .no Zae xs), .c (.raw ((Value.func (.func g) #[] caps.toArray)))]) Tryz.func45 ⟨rfl,rfl⟩ (fun c hc'=>?_) hsz hgl ⟨v,_,rfl,hv,_,[],rfl,⟨rfl,rfl⟩,rfl⟩ (fun hwf=>?_)
 ·exact ZfL
 refine Eq.mpr (β:=T3 (((Value.func (.func g) #[] caps.toArray)=(Value.func (.func g) #[] caps.toArray)∧(∀ z0:Zad,True)∧∀ (_:Zad→Bool) (_:List Zad),true=true)∧T2 (pt (cB (geI (Zf0 (fun z0:Zad=>(p z0)) xs) 0) (List.any xs p))))) (by kernel_rfl) ?_
 exact Zrs
def ZdV:Zhy Tryz.prog:=⟨45,Zae,true,fun p xs=>.bool (List.any xs p),ZdU,Tryz.call45⟩
def Zga (xs:List ZbT) (ys:List ZbT):Nat→List AV→Mem→Zbd
 | 4,tm,M=>⟨Nat,fun y=>(Zcf (Zct tm [(4, .any),(5, .any),(13, .c (.int .i64 ((y:Nat):Int)))]) 14 12,M),fun y=>(y≤List.length xs∧∀ j,j < y→ZaV xs j=ZaV ys j),fun y=>(List.length xs - y)⟩
 | _,_,_=>⟨Unit,fun _=>([],[]),fun _=>False,fun _=>0⟩
theorem Zgb (xs:List ZbT) (ys:List ZbT):Zao Tryz.prog 184 [.c (.hs .no Zay xs), .c (.hs .no Zay ys)] (.c (.bool (Zbt xs ys))) []:=by
 refine bc0 [] [] [] [] (Zga xs ys) Tryz.func184 (fun hwf=>?_)
 refine Eq.mpr (β:=T6 (bif neI xs.length ys.length then True∧rB false (Zbt xs ys) else T3 ((∃ q:Nat,(q≤xs.length∧∀ j,j < q→ZaV xs j=ZaV ys j)∧lxs [hn Zay xs,hn Zay ys, .tp [], .tp []] (True∧True∧lxs [hn Zay xs,ci xs.length,hn Zay ys,ci ys.length, .c (.bool false),hn Zay xs,ci xs.length] (vI 0 q∧TN 12 True))∧pt (True))∧∀ y0:Nat,(y0≤xs.length∧∀ j,j < y0→ZaV xs j=ZaV ys j)→True∧bif ltI y0 xs.length then T2 (pt (true=true)∧T2 (ix 2 y0 xs.length∧T3 (ix 2 y0 ys.length∧True∧true=true∧bif !(ZoT (ZaV xs y0) (ZaV ys y0)) then True∧rB false (Zbt xs ys) else T2 (∃ y0' : Nat,(y0'≤xs.length∧∀ j,j < y0'→ZaV xs j=ZaV ys j)∧(xs.length - y0') < (xs.length - y0)∧lxs [hn Zay xs,hn Zay ys, .tp [], .tp []] (True∧True∧lxs [hn Zay xs,ci xs.length,hn Zay ys,ci ys.length, .c (.bool false),hn Zay xs,ci xs.length] (vI (w64 ((y0:Int) + 1)) y0'∧TN 12 True))∧pt (True))))) else True∧rB true (Zbt xs ys)))) (by kernel_rfl) ?_
 unfold T2 T3 T6
 simp only [SIA,eq_self]
 have hm:xs.length≤maxLen:=hwf.1.1
 refine ⟨fun hl=>?_,fun hl=>⟨⟨0,⟨Nat.zero_le _,Za3⟩,rfl⟩,fun k hk=>⟨fun hlt=>⟨by omega,by omega,fun hp=>?_,fun hp=>?_⟩,fun hge=>?_⟩⟩⟩
 ·exact (ZcA.2 (fun e=>hl (by rw [e]))).symm
 ·exact (ZcA.2 (fun e=>((Zfv.1 hp)) (by rw [e]))).symm
 ·exact ZAl
 ·obtain rfl:k=xs.length:=by omega
  have hl' : xs.length=ys.length:=by omega
  exact (Zer.2 (Zch (t:=Zay) hl' hk.2)).symm
def Zgc:ZaE Tryz.prog:=⟨184,[.v (.list Zay), .v (.list Zay)],fun x=>True,fun x=>.c (.bool (Zbt x.1 x.2.1)),fun _=>[],fun x hx=>Zgb x.1 x.2.1,Tryz.call184⟩
def Zgd (xs:List ZaM) (ys:List ZaM):Nat→List AV→Mem→Zbd
 | 4,tm,M=>⟨Nat,fun y=>(Zcf (Zct tm [(4, .any),(5, .any),(13, .c (.int .i64 ((y:Nat):Int)))]) 14 12,M),fun y=>(y≤List.length xs∧∀ j,j < y→Zaf xs j=Zaf ys j),fun y=>(List.length xs - y)⟩
 | _,_,_=>⟨Unit,fun _=>([],[]),fun _=>False,fun _=>0⟩
theorem Zge (xs:List ZaM) (ys:List ZaM):Zao Tryz.prog 220 [.c (.hs .no Zal xs), .c (.hs .no Zal ys)] (.c (.bool (Zdh xs ys))) []:=by
 refine bc0 [] [] [] [] (Zgd xs ys) Tryz.func220 (fun hwf=>?_)
 refine Eq.mpr (β:=T6 (bif neI xs.length ys.length then True∧rB false (Zdh xs ys) else T3 ((∃ q:Nat,(q≤xs.length∧∀ j,j < q→Zaf xs j=Zaf ys j)∧lxs [hn Zal xs,hn Zal ys, .tp [], .tp []] (True∧True∧lxs [hn Zal xs,ci xs.length,hn Zal ys,ci ys.length, .c (.bool false),hn Zal xs,ci xs.length] (vI 0 q∧TN 12 True))∧pt (True))∧∀ y0:Nat,(y0≤xs.length∧∀ j,j < y0→Zaf xs j=Zaf ys j)→True∧bif ltI y0 xs.length then T2 (pt (true=true)∧T2 (ix 4 y0 xs.length∧T3 (ix 4 y0 ys.length∧True∧true=true∧bif !(Zcw (Zaf xs y0) (Zaf ys y0)) then True∧rB false (Zdh xs ys) else T2 (∃ y0' : Nat,(y0'≤xs.length∧∀ j,j < y0'→Zaf xs j=Zaf ys j)∧(xs.length - y0') < (xs.length - y0)∧lxs [hn Zal xs,hn Zal ys, .tp [], .tp []] (True∧True∧lxs [hn Zal xs,ci xs.length,hn Zal ys,ci ys.length, .c (.bool false),hn Zal xs,ci xs.length] (vI (w64 ((y0:Int) + 1)) y0'∧TN 12 True))∧pt (True))))) else True∧rB true (Zdh xs ys)))) (by kernel_rfl) ?_
 unfold T2 T3 T6
 simp only [SIA,eq_self]
 have hm:xs.length≤maxLen:=hwf.1.1
 refine ⟨fun hl=>?_,fun hl=>⟨⟨0,⟨Nat.zero_le _,Za3⟩,rfl⟩,fun k hk=>⟨fun hlt=>⟨by omega,by omega,fun hp=>?_,fun hp=>?_⟩,fun hge=>?_⟩⟩⟩
 ·exact (Zeb.2 (fun e=>hl (by rw [e]))).symm
 ·exact (Zeb.2 (fun e=>((Zfy.1 hp)) (by rw [e]))).symm
 ·exact ZAk
 ·obtain rfl:k=xs.length:=by omega
  have hl' : xs.length=ys.length:=by omega
  exact (Zfx.2 (Zch (t:=Zal) hl' hk.2)).symm
def Zgf:ZaE Tryz.prog:=⟨220,[.v (.list Zal), .v (.list Zal)],fun x=>True,fun x=>.c (.bool (Zdh x.1 x.2.1)),fun _=>[],fun x hx=>Zge x.1 x.2.1,Tryz.call220⟩
def Zhn (xs:List Zdr) (ys:List Zdr):Nat→List AV→Mem→Zbd
 | 4,tm,M=>⟨Nat,fun y=>(Zcf (Zct tm [(4, .any),(5, .any),(13, .c (.int .i64 ((y:Nat):Int)))]) 14 12,M),fun y=>(y≤List.length xs∧∀ j,j < y→ZaG xs j=ZaG ys j),fun y=>(List.length xs - y)⟩
 | _,_,_=>⟨Unit,fun _=>([],[]),fun _=>False,fun _=>0⟩
theorem Zho (xs:List Zdr) (ys:List Zdr):Zao Tryz.prog 216 [.c (.hs .no ZaR xs), .c (.hs .no ZaR ys)] (.c (.bool (Zd0 xs ys))) []:=by
 refine bc0 [] [] [] [] (Zhn xs ys) Tryz.func216 (fun hwf=>?_)
 refine Eq.mpr (β:=T6 (bif neI xs.length ys.length then True∧rB false (Zd0 xs ys) else T3 ((∃ q:Nat,(q≤xs.length∧∀ j,j < q→ZaG xs j=ZaG ys j)∧lxs [hn ZaR xs,hn ZaR ys, .tp [], .tp []] (True∧True∧lxs [hn ZaR xs,ci xs.length,hn ZaR ys,ci ys.length, .c (.bool false),hn ZaR xs,ci xs.length] (vI 0 q∧TN 12 True))∧pt (True))∧∀ y0:Nat,(y0≤xs.length∧∀ j,j < y0→ZaG xs j=ZaG ys j)→True∧bif ltI y0 xs.length then T2 (pt (true=true)∧T2 (ix 3 y0 xs.length∧T3 (ix 3 y0 ys.length∧True∧true=true∧bif !(ZvI (ZaG xs y0) (ZaG ys y0)) then True∧rB false (Zd0 xs ys) else T2 (∃ y0' : Nat,(y0'≤xs.length∧∀ j,j < y0'→ZaG xs j=ZaG ys j)∧(xs.length - y0') < (xs.length - y0)∧lxs [hn ZaR xs,hn ZaR ys, .tp [], .tp []] (True∧True∧lxs [hn ZaR xs,ci xs.length,hn ZaR ys,ci ys.length, .c (.bool false),hn ZaR xs,ci xs.length] (vI (w64 ((y0:Int) + 1)) y0'∧TN 12 True))∧pt (True))))) else True∧rB true (Zd0 xs ys)))) (by kernel_rfl) ?_
 unfold T2 T3 T6
 simp only [SIA,eq_self]
 have hm:xs.length≤maxLen:=hwf.1.1
 refine ⟨fun hl=>?_,fun hl=>⟨⟨0,⟨Nat.zero_le _,Za3⟩,rfl⟩,fun k hk=>⟨fun hlt=>⟨by omega,by omega,fun hp=>?_,fun hp=>?_⟩,fun hge=>?_⟩⟩⟩
 ·exact (Zes.2 (fun e=>hl (by rw [e]))).symm
 ·exact (Zes.2 (fun e=>((Zgp.1 hp)) (by rw [e]))).symm
 ·exact ZAm
 ·obtain rfl:k=xs.length:=by omega
  have hl' : xs.length=ys.length:=by omega
  exact (Zgo.2 (Zch (t:=ZaR) hl' hk.2)).symm
def Zhp:ZaE Tryz.prog:=⟨216,[.v (.list ZaR), .v (.list ZaR)],fun x=>True,fun x=>.c (.bool (Zd0 x.1 x.2.1)),fun _=>[],fun x hx=>Zho x.1 x.2.1,Tryz.call216⟩
def Zgg (xs:List ByteArray) (ys:List ByteArray):Nat→List AV→Mem→Zbd
 | 4,tm,M=>⟨Nat,fun y=>(Zcf (Zct tm [(4, .any),(5, .any),(13, .c (.int .i64 ((y:Nat):Int)))]) 14 12,M),fun y=>(y≤List.length xs∧∀ j,j < y→ZaF xs j=ZaF ys j),fun y=>(List.length xs - y)⟩
 | _,_,_=>⟨Unit,fun _=>([],[]),fun _=>False,fun _=>0⟩
theorem Zgh (xs:List ByteArray) (ys:List ByteArray):Zao Tryz.prog 219 [.c (.hs .no Za1 xs), .c (.hs .no Za1 ys)] (.c (.bool (ZbO xs ys))) []:=by
 refine bc0 [] [] [] [] (Zgg xs ys) Tryz.func219 (fun hwf=>?_)
 refine Eq.mpr (β:=T6 (bif neI xs.length ys.length then True∧rB false (ZbO xs ys) else T3 ((∃ q:Nat,(q≤xs.length∧∀ j,j < q→ZaF xs j=ZaF ys j)∧lxs [hn Za1 xs,hn Za1 ys, .tp [], .tp []] (True∧True∧lxs [hn Za1 xs,ci xs.length,hn Za1 ys,ci ys.length, .c (.bool false),hn Za1 xs,ci xs.length] (vI 0 q∧TN 12 True))∧pt (True))∧∀ y0:Nat,(y0≤xs.length∧∀ j,j < y0→ZaF xs j=ZaF ys j)→True∧bif ltI y0 xs.length then T2 (pt (true=true)∧T2 (ix 1 y0 xs.length∧T3 (ix 1 y0 ys.length∧T2 (bif !eqS (ZaF xs y0) (ZaF ys y0) then True∧rB false (ZbO xs ys) else T2 (∃ y0' : Nat,(y0'≤xs.length∧∀ j,j < y0'→ZaF xs j=ZaF ys j)∧(xs.length - y0') < (xs.length - y0)∧lxs [hn Za1 xs,hn Za1 ys, .tp [], .tp []] (True∧True∧lxs [hn Za1 xs,ci xs.length,hn Za1 ys,ci ys.length, .c (.bool false),hn Za1 xs,ci xs.length] (vI (w64 ((y0:Int) + 1)) y0'∧TN 12 True))∧pt (True)))))) else True∧rB true (ZbO xs ys)))) (by kernel_rfl) ?_
 unfold T2 T3 T6
 simp only [SIA,eq_self]
 have hm:xs.length≤maxLen:=hwf.1.1
 refine ⟨fun hl=>?_,fun hl=>⟨⟨0,⟨Nat.zero_le _,Za3⟩,rfl⟩,fun k hk=>⟨fun hlt=>⟨by omega,by omega,fun hp=>?_,fun hp=>?_⟩,fun hge=>?_⟩⟩⟩
 ·exact (Zcr.2 (fun e=>hl (by rw [e]))).symm
 ·exact (Zcr.2 (fun e=>(hp) (by rw [e]))).symm
 ·exact Zdw
 ·obtain rfl:k=xs.length:=by omega
  have hl' : xs.length=ys.length:=by omega
  exact (ZdM.2 (Zch (t:=Za1) hl' hk.2)).symm
def Zgi:ZaE Tryz.prog:=⟨219,[.v (.list Za1), .v (.list Za1)],fun x=>True,fun x=>.c (.bool (ZbO x.1 x.2.1)),fun _=>[],fun x hx=>Zgh x.1 x.2.1,Tryz.call219⟩
def ZcY (p:ZaW→ZaW→Bool) (xs ys:List ZaW):Nat→List AV→Mem→Zbd
 | 4,tm,M=>⟨Nat,fun y=>(Zcf (Zcf (Zct tm [(17, .c (.int .i64 ((y:Nat):Int)))]) 6 4) 18 14,M),fun y=>(y≤List.length xs∧∀ j,j < y→p (Zas xs j) (Zas ys j)=true),fun y=>(List.length xs - y)⟩
 | _,_,_=>⟨Unit,fun _=>([],[]),fun _=>False,fun _=>0⟩
theorem ZcZ (p:ZaW→ZaW→Bool) (xs ys:List ZaW) (u:Value) (X:List Nat) (W:World) (v:Value) (v2:Value) (hsz:∀ b ∈ X,b < W.heap.size) (hgl:Zko W []) (hv:Zb3 X W [] [] (.hs .no Zak xs) v) (hv2:Zb3 X W [] [] (.hs .no Zak ys) v2) (hc:Zvl X W Tryz.prog u true Zak p) :
 Calls Tryz.prog 217 #[v,v2,u] W (fun e W'=>∃ v E',e=.returned v∧ZbU W [] W' E'∧RepM X W' E' []∧Zc5 X W' E' [] (.c (.bool (ZkQ p xs ys))) v):=by
 obtain ⟨g,caps,rfl,ent,hc⟩:=hc
 refine Zeq (T:=⟨[],[],[],[],some ⟨_,g,caps,rfl,[.s Zak, .s Zak],fun x=>.c (.bool (p x.1 x.2.1)),ent⟩,fun _=>[],0,[],[]⟩) (L:=(ZcY p xs ys)) (args:=[.c (.hs .no Zak xs), .c (.hs .no Zak ys), .c (.raw ((Value.func (.func g) #[] caps.toArray)))]) Tryz.func217 ⟨rfl,rfl⟩ (fun c hc'=>?_) hsz hgl ⟨v,_,rfl,hv,v2,_,rfl,hv2,_,[],rfl,⟨rfl,rfl⟩,rfl⟩ (fun hwf=>?_)
 ·exact Zzv
 refine Eq.mpr (β:=T6 (bif neI xs.length ys.length then True∧pt (cB false (ZkQ p xs ys)) else T3 ((∃ q:Nat,(q≤xs.length∧∀ j,j < q→p (Zas xs j) (Zas ys j)=true)∧lxs [hn Zak xs,hn Zak ys, .c (.raw ((Value.func (.func g) #[] caps.toArray)))] (tpn 3 (TN 4 (lxs [hn Zak xs,ci xs.length,hn Zak ys,ci ys.length, .c (.bool false),hn Zak xs,ci xs.length] (vI 0 q∧TN 14 True))))∧pt (True))∧∀ y0:Nat,(y0≤xs.length∧∀ j,j < y0→p (Zas xs j) (Zas ys j)=true)→True∧bif ltI y0 xs.length then True∧ix 3 y0 xs.length∧T6 (ix 3 y0 ys.length∧T6 (pt ((Value.func (.func g) #[] caps.toArray)=(Value.func (.func g) #[] caps.toArray))∧True∧bif !(p (Zas xs y0) (Zas ys y0)) then True∧pt (cB false (ZkQ p xs ys)) else T2 (∃ y0' : Nat,(y0'≤xs.length∧∀ j,j < y0'→p (Zas xs j) (Zas ys j)=true)∧(xs.length - y0') < (xs.length - y0)∧lxs [hn Zak xs,hn Zak ys, .c (.raw ((Value.func (.func g) #[] caps.toArray)))] (tpn 3 (TN 4 (lxs [hn Zak xs,ci xs.length,hn Zak ys,ci ys.length, .c (.bool false),hn Zak xs,ci xs.length] (vI (w64 ((y0:Int) + 1)) y0'∧TN 14 True))))∧pt (True)))) else True∧pt (cB true (ZkQ p xs ys))))) (by kernel_rfl) ?_
 simp only [SIA,eq_self]
 have hm:xs.length≤maxLen:=hwf.1.1
 refine ⟨fun hl=>?_,fun hl=>⟨⟨0,⟨Nat.zero_le _,Za3⟩,rfl⟩,fun k hk=>⟨fun hlt=>⟨by omega,by omega,fun hp=>?_,fun hp=>?_⟩,fun hge=>?_⟩⟩⟩
 ·exact (ZvW (fun e=>hl (by rw [e]))).symm
 ·have hk1:k < xs.length:=by omega
  have hk2:k < ys.length:=by omega
  exact (ZqW (t:=Zak) hk1 hk2 hp).symm
 ·exact Zdw
 ·obtain rfl:k=xs.length:=by omega
  have hl' : xs.length=ys.length:=by omega
  exact (ZEY (t:=Zak) hl' hk.2).symm
def Zc0:ZjR Tryz.prog:=⟨217,Zak,true,fun p xs ys=>.bool (ZkQ p xs ys),ZcZ,Tryz.call217⟩
def ZdF (p:ZaO→ZaO→Bool) (xs ys:List ZaO):Nat→List AV→Mem→Zbd
 | 4,tm,M=>⟨Nat,fun y=>(Zcf (Zcf (Zct tm [(17, .c (.int .i64 ((y:Nat):Int)))]) 6 4) 18 14,M),fun y=>(y≤List.length xs∧∀ j,j < y→p (Zab xs j) (Zab ys j)=true),fun y=>(List.length xs - y)⟩
 | _,_,_=>⟨Unit,fun _=>([],[]),fun _=>False,fun _=>0⟩
theorem ZdG (p:ZaO→ZaO→Bool) (xs ys:List ZaO) (u:Value) (X:List Nat) (W:World) (v:Value) (v2:Value) (hsz:∀ b ∈ X,b < W.heap.size) (hgl:Zko W []) (hv:Zb3 X W [] [] (.hs .no Zaj xs) v) (hv2:Zb3 X W [] [] (.hs .no Zaj ys) v2) (hc:Zvl X W Tryz.prog u true Zaj p) :
 Calls Tryz.prog 168 #[v,v2,u] W (fun e W'=>∃ v E',e=.returned v∧ZbU W [] W' E'∧RepM X W' E' []∧Zc5 X W' E' [] (.c (.bool (ZkQ p xs ys))) v):=by
 obtain ⟨g,caps,rfl,ent,hc⟩:=hc
 refine Zeq (T:=⟨[],[],[],[],some ⟨_,g,caps,rfl,[.s Zaj, .s Zaj],fun x=>.c (.bool (p x.1 x.2.1)),ent⟩,fun _=>[],0,[],[]⟩) (L:=(ZdF p xs ys)) (args:=[.c (.hs .no Zaj xs), .c (.hs .no Zaj ys), .c (.raw ((Value.func (.func g) #[] caps.toArray)))]) Tryz.func168 ⟨rfl,rfl⟩ (fun c hc'=>?_) hsz hgl ⟨v,_,rfl,hv,v2,_,rfl,hv2,_,[],rfl,⟨rfl,rfl⟩,rfl⟩ (fun hwf=>?_)
 ·exact Zzv
 refine Eq.mpr (β:=T6 (bif neI xs.length ys.length then True∧pt (cB false (ZkQ p xs ys)) else T3 ((∃ q:Nat,(q≤xs.length∧∀ j,j < q→p (Zab xs j) (Zab ys j)=true)∧lxs [hn Zaj xs,hn Zaj ys, .c (.raw ((Value.func (.func g) #[] caps.toArray)))] (tpn 3 (TN 4 (lxs [hn Zaj xs,ci xs.length,hn Zaj ys,ci ys.length, .c (.bool false),hn Zaj xs,ci xs.length] (vI 0 q∧TN 14 True))))∧pt (True))∧∀ y0:Nat,(y0≤xs.length∧∀ j,j < y0→p (Zab xs j) (Zab ys j)=true)→True∧bif ltI y0 xs.length then True∧ix 4 y0 xs.length∧T6 (ix 4 y0 ys.length∧T6 (pt ((Value.func (.func g) #[] caps.toArray)=(Value.func (.func g) #[] caps.toArray))∧True∧bif !(p (Zab xs y0) (Zab ys y0)) then True∧pt (cB false (ZkQ p xs ys)) else T2 (∃ y0' : Nat,(y0'≤xs.length∧∀ j,j < y0'→p (Zab xs j) (Zab ys j)=true)∧(xs.length - y0') < (xs.length - y0)∧lxs [hn Zaj xs,hn Zaj ys, .c (.raw ((Value.func (.func g) #[] caps.toArray)))] (tpn 3 (TN 4 (lxs [hn Zaj xs,ci xs.length,hn Zaj ys,ci ys.length, .c (.bool false),hn Zaj xs,ci xs.length] (vI (w64 ((y0:Int) + 1)) y0'∧TN 14 True))))∧pt (True)))) else True∧pt (cB true (ZkQ p xs ys))))) (by kernel_rfl) ?_
 simp only [SIA,eq_self]
 have hm:xs.length≤maxLen:=hwf.1.1
 refine ⟨fun hl=>?_,fun hl=>⟨⟨0,⟨Nat.zero_le _,Za3⟩,rfl⟩,fun k hk=>⟨fun hlt=>⟨by omega,by omega,fun hp=>?_,fun hp=>?_⟩,fun hge=>?_⟩⟩⟩
 ·exact (ZvW (fun e=>hl (by rw [e]))).symm
 ·have hk1:k < xs.length:=by omega
  have hk2:k < ys.length:=by omega
  exact (ZqW (t:=Zaj) hk1 hk2 hp).symm
 ·exact Zdw
 ·obtain rfl:k=xs.length:=by omega
  have hl' : xs.length=ys.length:=by omega
  exact (ZEY (t:=Zaj) hl' hk.2).symm
def ZdH:ZjR Tryz.prog:=⟨168,Zaj,true,fun p xs ys=>.bool (ZkQ p xs ys),ZdG,Tryz.call168⟩
end Go.Proofs.YtafhbjjcpncfnaaGreat
