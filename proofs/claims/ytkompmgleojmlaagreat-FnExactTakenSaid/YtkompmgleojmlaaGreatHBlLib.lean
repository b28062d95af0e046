import Derived.Test.YtkompmgleojmlaaGreatHBmTy
set_option linter.unusedSimpArgs false
set_option linter.unusedVariables false
set_option maxRecDepth 100000
set_option maxHeartbeats 4000000
namespace Go.Proofs.YtkompmgleojmlaaGreat
open Go.ChangeShapes Go.WideShapes Go.ChangeAt Go.RowKit Go.Joins Go.Deep
open GoRep (rep bulk)
def ZeI (p:ZaZ→Bool) (xs:List ZaZ):Nat→List AV→Mem→Zbj
 | 2,tm,M=>⟨Nat,fun y=>(Zcn (ZcC tm [(4, .any),(5, .any),(8, .c (.int .i64 ((y:Nat):Int)))]) 9 10,M),fun y=>(y≤List.length xs∧∀ j,j < y→p (Zaq xs j)=false),fun y=>(List.length xs - y)⟩
 | _,_,_=>⟨Unit,fun _=>([],[]),fun _=>False,fun _=>0⟩
theorem ZeJ (p:ZaZ→Bool) (xs:List ZaZ) (u:Value) (X:List Nat) (W:World) (v:Value) (hsz:∀ b ∈ X,b < W.heap.size) (hgl:Zjp W []) (hv:Zb7 X W [] [] (.hs .no Zak xs) v) (hc:Zlb X W Tryz.prog u true Zak p) :
 Calls Tryz.prog 242 #[v,u] W (fun e W'=>∃ v E',e=.returned v∧ZbW W [] W' E'∧RepM X W' E' []∧Zdt X W' E' [] (.c (.int .i64 (Zf2 p xs))) v):=by
 obtain ⟨g,caps,rfl,ent,hc⟩:=hc
 refine Zep (T:=⟨[],[],[],[],some ⟨_,g,caps,rfl,[.s Zak],fun x=>.c (.bool (p x.1)),ent⟩,fun _=>[],0,[],[]⟩) (L:=(ZeI p xs)) (args:=[.c (.hs .no Zak xs), .c (.raw ((Value.func (.func g) #[] caps.toArray)))]) Tryz.func242 ⟨rfl,rfl⟩ (fun c hc'=>?_) hsz hgl ⟨v,_,rfl,hv,_,[],rfl,⟨rfl,rfl⟩,rfl⟩ (fun hwf=>?_)
 ·exact ZfL
 refine Eq.mpr (β:=T4 ((∃ q:Nat,(q≤xs.length∧∀ j,j < q→p (Zaq xs j)=false)∧lxs [hn Zak xs, .c (.raw ((Value.func (.func g) #[] caps.toArray))), .tp [], .tp []] (True∧True∧lxs [hn Zak xs,ci xs.length] (vI 0 q∧TN 10 True))∧pt (True))∧∀ y0:Nat,(y0≤xs.length∧∀ j,j < y0→p (Zaq xs j)=false)→True∧bif ltI y0 xs.length then T5 (ix 3 y0 xs.length∧True∧pt ((Value.func (.func g) #[] caps.toArray)=(Value.func (.func g) #[] caps.toArray))∧bif p (Zaq xs y0) then T2 (pt (cI y0 (Zf2 p xs))) else T2 (∃ y0' : Nat,(y0'≤xs.length∧∀ j,j < y0'→p (Zaq xs j)=false)∧(xs.length - y0') < (xs.length - y0)∧lxs [hn Zak xs, .c (.raw ((Value.func (.func g) #[] caps.toArray))), .tp [], .tp []] (True∧True∧lxs [hn Zak xs,ci xs.length] (vI (w64 ((y0:Int) + 1)) y0'∧TN 10 True))∧pt (True))) else True∧pt (cI (-1) (Zf2 p xs)))) (by kernel_rfl) ?_
 simp only [SIA,eq_self]
 have hm:xs.length≤maxLen:=hwf.1.1
 refine ⟨⟨0,⟨Nat.zero_le _,Za7⟩,rfl⟩,fun k hk=>⟨fun hlt=>⟨by omega,fun hp=>?_,fun hp=>?_⟩,fun hge=>?_⟩⟩
 ·have hk' : k < xs.length:=by omega
  exact (Zfs (t:=Zak) hk' hk.2 hp).symm
 ·exact ZdA
 ·obtain rfl:k=xs.length:=by omega
  exact (Zcw (t:=Zak) hk.2).symm
def ZeK:Zhy Tryz.prog:=⟨242,Zak,true,fun p xs=>.int .i64 (Zf2 p xs),ZeJ,Tryz.call242⟩
theorem Zei (p:ZaZ→Bool) (xs:List ZaZ) (u:Value) (X:List Nat) (W:World) (v:Value) (hsz:∀ b ∈ X,b < W.heap.size) (hgl:Zjp W []) (hv:Zb7 X W [] [] (.hs .no Zak xs) v) (hc:Zlb X W Tryz.prog u true Zak p) :
 Calls Tryz.prog 174 #[v,u] W (fun e W'=>∃ v E',e=.returned v∧ZbW W [] W' E'∧RepM X W' E' []∧Zdt X W' E' [] (.c (.bool (List.any xs p))) v):=by
 obtain ⟨g,caps,rfl,ent,hc⟩:=hc
 refine Zep (T:=⟨[],[ZeK],[],[],some ⟨_,g,caps,rfl,[.s Zak],fun x=>.c (.bool (p x.1)),ent⟩,fun _=>[],0,[],[]⟩) (L:=L0) (args:=[.c (.hs .no Zak xs), .c (.raw ((Value.func (.func g) #[] caps.toArray)))]) Tryz.func174 ⟨rfl,rfl⟩ (fun c hc'=>?_) hsz hgl ⟨v,_,rfl,hv,_,[],rfl,⟨rfl,rfl⟩,rfl⟩ (fun hwf=>?_)
 ·exact ZfL
 refine Eq.mpr (β:=T3 (((Value.func (.func g) #[] caps.toArray)=(Value.func (.func g) #[] caps.toArray)∧(∀ z0:ZaZ,True)∧∀ (_:ZaZ→Bool) (_:List ZaZ),true=true)∧T2 (pt (cB (geI (Zf2 (fun z0:ZaZ=>(p z0)) xs) 0) (List.any xs p))))) (by kernel_rfl) ?_
 exact ZrC
def Zej:Zhy Tryz.prog:=⟨174,Zak,true,fun p xs=>.bool (List.any xs p),Zei,Tryz.call174⟩
def Zfy (p:ZaM→Bool) (xs:List ZaM):Nat→List AV→Mem→Zbj
 | 2,tm,M=>⟨Nat,fun y=>(Zcn (ZcC tm [(4, .any),(5, .any),(8, .c (.int .i64 ((y:Nat):Int)))]) 9 10,M),fun y=>(y≤List.length xs∧∀ j,j < y→p (Zab xs j)=false),fun y=>(List.length xs - y)⟩
 | _,_,_=>⟨Unit,fun _=>([],[]),fun _=>False,fun _=>0⟩
theorem Zfz (p:ZaM→Bool) (xs:List ZaM) (u:Value) (X:List Nat) (W:World) (v:Value) (hsz:∀ b ∈ X,b < W.heap.size) (hgl:Zjp W []) (hv:Zb7 X W [] [] (.hs .no Zaj xs) v) (hc:Zlb X W Tryz.prog u true Zaj p) :
 Calls Tryz.prog 183 #[v,u] W (fun e W'=>∃ v E',e=.returned v∧ZbW W [] W' E'∧RepM X W' E' []∧Zdt X W' E' [] (.c (.int .i64 (Zf2 p xs))) v):=by
 obtain ⟨g,caps,rfl,ent,hc⟩:=hc
 refine Zep (T:=⟨[],[],[],[],some ⟨_,g,caps,rfl,[.s Zaj],fun x=>.c (.bool (p x.1)),ent⟩,fun _=>[],0,[],[]⟩) (L:=(Zfy p xs)) (args:=[.c (.hs .no Zaj xs), .c (.raw ((Value.func (.func g) #[] caps.toArray)))]) Tryz.func183 ⟨rfl,rfl⟩ (fun c hc'=>?_) hsz hgl ⟨v,_,rfl,hv,_,[],rfl,⟨rfl,rfl⟩,rfl⟩ (fun hwf=>?_)
 ·exact ZfL
 refine Eq.mpr (β:=T4 ((∃ q:Nat,(q≤xs.length∧∀ j,j < q→p (Zab xs j)=false)∧lxs [hn Zaj xs, .c (.raw ((Value.func (.func g) #[] caps.toArray))), .tp [], .tp []] (True∧True∧lxs [hn Zaj xs,ci xs.length] (vI 0 q∧TN 10 True))∧pt (True))∧∀ y0:Nat,(y0≤xs.length∧∀ j,j < y0→p (Zab xs j)=false)→True∧bif ltI y0 xs.length then T5 (ix 4 y0 xs.length∧True∧pt ((Value.func (.func g) #[] caps.toArray)=(Value.func (.func g) #[] caps.toArray))∧bif p (Zab xs y0) then T2 (pt (cI y0 (Zf2 p xs))) else T2 (∃ y0' : Nat,(y0'≤xs.length∧∀ j,j < y0'→p (Zab xs j)=false)∧(xs.length - y0') < (xs.length - y0)∧lxs [hn Zaj xs, .c (.raw ((Value.func (.func g) #[] caps.toArray))), .tp [], .tp []] (True∧True∧lxs [hn Zaj xs,ci xs.length] (vI (w64 ((y0:Int) + 1)) y0'∧TN 10 True))∧pt (True))) else True∧pt (cI (-1) (Zf2 p xs)))) (by kernel_rfl) ?_
 simp only [SIA,eq_self]
 have hm:xs.length≤maxLen:=hwf.1.1
 refine ⟨⟨0,⟨Nat.zero_le _,Za7⟩,rfl⟩,fun k hk=>⟨fun hlt=>⟨by omega,fun hp=>?_,fun hp=>?_⟩,fun hge=>?_⟩⟩
 ·have hk' : k < xs.length:=by omega
  exact (Zfs (t:=Zaj) hk' hk.2 hp).symm
 ·exact ZdA
 ·obtain rfl:k=xs.length:=by omega
  exact (Zcw (t:=Zaj) hk.2).symm
def ZdD:Zhy Tryz.prog:=⟨183,Zaj,true,fun p xs=>.int .i64 (Zf2 p xs),Zfz,Tryz.call183⟩
def Ze2 (p:ZaO→Bool) (xs:List ZaO):Nat→List AV→Mem→Zbj
 | 2,tm,M=>⟨Nat,fun y=>(Zcn (ZcC tm [(4, .any),(5, .any),(8, .c (.int .i64 ((y:Nat):Int)))]) 9 10,M),fun y=>(y≤List.length xs∧∀ j,j < y→p (Zaf xs j)=false),fun y=>(List.length xs - y)⟩
 | _,_,_=>⟨Unit,fun _=>([],[]),fun _=>False,fun _=>0⟩
theorem Ze3 (p:ZaO→Bool) (xs:List ZaO) (u:Value) (X:List Nat) (W:World) (v:Value) (hsz:∀ b ∈ X,b < W.heap.size) (hgl:Zjp W []) (hv:Zb7 X W [] [] (.hs .no Zal xs) v) (hc:Zlb X W Tryz.prog u true Zal p) :
 Calls Tryz.prog 246 #[v,u] W (fun e W'=>∃ v E',e=.returned v∧ZbW W [] W' E'∧RepM X W' E' []∧Zdt X W' E' [] (.c (.int .i64 (Zf2 p xs))) v):=by
 obtain ⟨g,caps,rfl,ent,hc⟩:=hc
 refine Zep (T:=⟨[],[],[],[],some ⟨_,g,caps,rfl,[.s Zal],fun x=>.c (.bool (p x.1)),ent⟩,fun _=>[],0,[],[]⟩) (L:=(Ze2 p xs)) (args:=[.c (.hs .no Zal xs), .c (.raw ((Value.func (.func g) #[] caps.toArray)))]) Tryz.func246 ⟨rfl,rfl⟩ (fun c hc'=>?_) hsz hgl ⟨v,_,rfl,hv,_,[],rfl,⟨rfl,rfl⟩,rfl⟩ (fun hwf=>?_)
 ·exact ZfL
 refine Eq.mpr (β:=T4 ((∃ q:Nat,(q≤xs.length∧∀ j,j < q→p (Zaf xs j)=false)∧lxs [hn Zal xs, .c (.raw ((Value.func (.func g) #[] caps.toArray))), .tp [], .tp []] (True∧True∧lxs [hn Zal xs,ci xs.length] (vI 0 q∧TN 10 True))∧pt (True))∧∀ y0:Nat,(y0≤xs.length∧∀ j,j < y0→p (Zaf xs j)=false)→True∧bif ltI y0 xs.length then T5 (ix 4 y0 xs.length∧True∧pt ((Value.func (.func g) #[] caps.toArray)=(Value.func (.func g) #[] caps.toArray))∧bif p (Zaf xs y0) then T2 (pt (cI y0 (Zf2 p xs))) else T2 (∃ y0' : Nat,(y0'≤xs.length∧∀ j,j < y0'→p (Zaf xs j)=false)∧(xs.length - y0') < (xs.length - y0)∧lxs [hn Zal xs, .c (.raw ((Value.func (.func g) #[] caps.toArray))), .tp [], .tp []] (True∧True∧lxs [hn Zal xs,ci xs.length] (vI (w64 ((y0:Int) + 1)) y0'∧TN 10 True))∧pt (True))) else True∧pt (cI (-1) (Zf2 p xs)))) (by kernel_rfl) ?_
 simp only [SIA,eq_self]
 have hm:xs.length≤maxLen:=hwf.1.1
 refine ⟨⟨0,⟨Nat.zero_le _,Za7⟩,rfl⟩,fun k hk=>⟨fun hlt=>⟨by omega,fun hp=>?_,fun hp=>?_⟩,fun hge=>?_⟩⟩
 ·have hk' : k < xs.length:=by omega
  exact (Zfs (t:=Zal) hk' hk.2 hp).symm
 ·exact ZdA
 ·obtain rfl:k=xs.length:=by omega
  exact (Zcw (t:=Zal) hk.2).symm
def Ze4:Zhy Tryz.prog:=⟨246,Zal,true,fun p xs=>.int .i64 (Zf2 p xs),Ze3,Tryz.call246⟩
theorem Zez (p:ZaO→Bool) (xs:List ZaO) (u:Value) (X:List Nat) (W:World) (v:Value) (hsz:∀ b ∈ X,b < W.heap.size) (hgl:Zjp W []) (hv:Zb7 X W [] [] (.hs .no Zal xs) v) (hc:Zlb X W Tryz.prog u true Zal p) :
 Calls Tryz.prog 181 #[v,u] W (fun e W'=>∃ v E',e=.returned v∧ZbW W [] W' E'∧RepM X W' E' []∧Zdt X W' E' [] (.c (.bool (List.any xs p))) v):=by
 obtain ⟨g,caps,rfl,ent,hc⟩:=hc
 refine Zep (T:=⟨[],[Ze4],[],[],some ⟨_,g,caps,rfl,[.s Zal],fun x=>.c (.bool (p x.1)),ent⟩,fun _=>[],0,[],[]⟩) (L:=L0) (args:=[.c (.hs .no Zal xs), .c (.raw ((Value.func (.func g) #[] caps.toArray)))]) Tryz.func181 ⟨rfl,rfl⟩ (fun c hc'=>?_) hsz hgl ⟨v,_,rfl,hv,_,[],rfl,⟨rfl,rfl⟩,rfl⟩ (fun hwf=>?_)
 ·exact ZfL
 refine Eq.mpr (β:=T3 (((Value.func (.func g) #[] caps.toArray)=(Value.func (.func g) #[] caps.toArray)∧(∀ z0:ZaO,True)∧∀ (_:ZaO→Bool) (_:List ZaO),true=true)∧T2 (pt (cB (geI (Zf2 (fun z0:ZaO=>(p z0)) xs) 0) (List.any xs p))))) (by kernel_rfl) ?_
 exact ZrC
def ZeA:Zhy Tryz.prog:=⟨181,Zal,true,fun p xs=>.bool (List.any xs p),Zez,Tryz.call181⟩
def ZfA (p:Zds→Bool) (xs:List Zds):Nat→List AV→Mem→Zbj
 | 2,tm,M=>⟨Nat,fun y=>(Zcn (ZcC tm [(4, .any),(5, .any),(8, .c (.int .i64 ((y:Nat):Int)))]) 9 10,M),fun y=>(y≤List.length xs∧∀ j,j < y→p (ZaG xs j)=false),fun y=>(List.length xs - y)⟩
 | _,_,_=>⟨Unit,fun _=>([],[]),fun _=>False,fun _=>0⟩
theorem ZfB (p:Zds→Bool) (xs:List Zds) (u:Value) (X:List Nat) (W:World) (v:Value) (hsz:∀ b ∈ X,b < W.heap.size) (hgl:Zjp W []) (hv:Zb7 X W [] [] (.hs .no ZaU xs) v) (hc:Zlb X W Tryz.prog u true ZaU p) :
 Calls Tryz.prog 271 #[v,u] W (fun e W'=>∃ v E',e=.returned v∧ZbW W [] W' E'∧RepM X W' E' []∧Zdt X W' E' [] (.c (.int .i64 (Zf2 p xs))) v):=by
 obtain ⟨g,caps,rfl,ent,hc⟩:=hc
 refine Zep (T:=⟨[],[],[],[],some ⟨_,g,caps,rfl,[.s ZaU],fun x=>.c (.bool (p x.1)),ent⟩,fun _=>[],0,[],[]⟩) (L:=(ZfA p xs)) (args:=[.c (.hs .no ZaU xs), .c (.raw ((Value.func (.func g) #[] caps.toArray)))]) Tryz.func271 ⟨rfl,rfl⟩ (fun c hc'=>?_) hsz hgl ⟨v,_,rfl,hv,_,[],rfl,⟨rfl,rfl⟩,rfl⟩ (fun hwf=>?_)
 ·exact ZfL
 refine Eq.mpr (β:=T4 ((∃ q:Nat,(q≤xs.length∧∀ j,j < q→p (ZaG xs j)=false)∧lxs [hn ZaU xs, .c (.raw ((Value.func (.func g) #[] caps.toArray))), .tp [], .tp []] (True∧True∧lxs [hn ZaU xs,ci xs.length] (vI 0 q∧TN 10 True))∧pt (True))∧∀ y0:Nat,(y0≤xs.length∧∀ j,j < y0→p (ZaG xs j)=false)→True∧bif ltI y0 xs.length then T5 (ix 3 y0 xs.length∧True∧pt ((Value.func (.func g) #[] caps.toArray)=(Value.func (.func g) #[] caps.toArray))∧bif p (ZaG xs y0) then T2 (pt (cI y0 (Zf2 p xs))) else T2 (∃ y0' : Nat,(y0'≤xs.length∧∀ j,j < y0'→p (ZaG xs j)=false)∧(xs.length - y0') < (xs.length - y0)∧lxs [hn ZaU xs, .c (.raw ((Value.func (.func g) #[] caps.toArray))), .tp [], .tp []] (True∧True∧lxs [hn ZaU xs,ci xs.length] (vI (w64 ((y0:Int) + 1)) y0'∧TN 10 True))∧pt (True))) else True∧pt (cI (-1) (Zf2 p xs)))) (by kernel_rfl) ?_
 simp only [SIA,eq_self]
 have hm:xs.length≤maxLen:=hwf.1.1
 refine ⟨⟨0,⟨Nat.zero_le _,Za7⟩,rfl⟩,fun k hk=>⟨fun hlt=>⟨by omega,fun hp=>?_,fun hp=>?_⟩,fun hge=>?_⟩⟩
 ·have hk' : k < xs.length:=by omega
  exact (Zfs (t:=ZaU) hk' hk.2 hp).symm
 ·exact ZdA
 ·obtain rfl:k=xs.length:=by omega
  exact (Zcw (t:=ZaU) hk.2).symm
def ZfC:Zhy Tryz.prog:=⟨271,ZaU,true,fun p xs=>.int .i64 (Zf2 p xs),ZfB,Tryz.call271⟩
def Zee (p:Zad→Bool) (xs:List Zad):Nat→List AV→Mem→Zbj
 | 2,tm,M=>⟨Nat,fun y=>(Zcn (ZcC tm [(4, .any),(5, .any),(8, .c (.int .i64 ((y:Nat):Int)))]) 9 10,M),fun y=>(y≤List.length xs∧∀ j,j < y→p (Zaa xs j)=false),fun y=>(List.length xs - y)⟩
 | _,_,_=>⟨Unit,fun _=>([],[]),fun _=>False,fun _=>0⟩
theorem Zef (p:Zad→Bool) (xs:List Zad) (u:Value) (X:List Nat) (W:World) (v:Value) (hsz:∀ b ∈ X,b < W.heap.size) (hgl:Zjp W []) (hv:Zb7 X W [] [] (.hs .no Zae xs) v) (hc:Zlb X W Tryz.prog u true Zae p) :
 Calls Tryz.prog 92 #[v,u] W (fun e W'=>∃ v E',e=.returned v∧ZbW W [] W' E'∧RepM X W' E' []∧Zdt X W' E' [] (.c (.int .i64 (Zf2 p xs))) v):=by
 obtain ⟨g,caps,rfl,ent,hc⟩:=hc
 refine Zep (T:=⟨[],[],[],[],some ⟨_,g,caps,rfl,[.s Zae],fun x=>.c (.bool (p x.1)),ent⟩,fun _=>[],0,[],[]⟩) (L:=(Zee p xs)) (args:=[.c (.hs .no Zae xs), .c (.raw ((Value.func (.func g) #[] caps.toArray)))]) Tryz.func92 ⟨rfl,rfl⟩ (fun c hc'=>?_) hsz hgl ⟨v,_,rfl,hv,_,[],rfl,⟨rfl,rfl⟩,rfl⟩ (fun hwf=>?_)
 ·exact ZfL
 refine Eq.mpr (β:=T4 ((∃ q:Nat,(q≤xs.length∧∀ j,j < q→p (Zaa xs j)=false)∧lxs [hn Zae xs, .c (.raw ((Value.func (.func g) #[] caps.toArray))), .tp [], .tp []] (True∧True∧lxs [hn Zae xs,ci xs.length] (vI 0 q∧TN 10 True))∧pt (True))∧∀ y0:Nat,(y0≤xs.length∧∀ j,j < y0→p (Zaa xs j)=false)→True∧bif ltI y0 xs.length then T5 (ix 17 y0 xs.length∧True∧pt ((Value.func (.func g) #[] caps.toArray)=(Value.func (.func g) #[] caps.toArray))∧bif p (Zaa xs y0) then T2 (pt (cI y0 (Zf2 p xs))) else T2 (∃ y0' : Nat,(y0'≤xs.length∧∀ j,j < y0'→p (Zaa xs j)=false)∧(xs.length - y0') < (xs.length - y0)∧lxs [hn Zae xs, .c (.raw ((Value.func (.func g) #[] caps.toArray))), .tp [], .tp []] (True∧True∧lxs [hn Zae xs,ci xs.length] (vI (w64 ((y0:Int) + 1)) y0'∧TN 10 True))∧pt (True))) else True∧pt (cI (-1) (Zf2 p xs)))) (by kernel_rfl) ?_
 simp only [SIA,eq_self]
 have hm:xs.length≤maxLen:=hwf.1.1
 refine ⟨⟨0,⟨Nat.zero_le _,Za7⟩,rfl⟩,fun k hk=>⟨fun hlt=>⟨by omega,fun hp=>?_,fun hp=>?_⟩,fun hge=>?_⟩⟩
 ·have hk' : k < xs.length:=by omega
  exact (Zfs (t:=Zae) hk' hk.2 hp).symm
 ·exact ZdA
 ·obtain rfl:k=xs.length:=by omega
  exact (Zcw (t:=Zae) hk.2).symm
def Zeg:Zhy Tryz.prog:=⟨92,Zae,true,fun p xs=>.int .i64 (Zf2 p xs),Zef,Tryz.call92⟩
theorem ZdW (p:Zad→Bool) (xs:List Zad) (u:Value) (X:List Nat) (W:World) (v:Value) (hsz:∀ b ∈ X,b < W.heap.size) (hgl:Zjp W []) (hv:Zb7 X W [] [] (.hs .no Zae xs) v) (hc:Zlb X W Tryz.prog u true Zae p) :
 Calls Tryz.prog 38 #[v,u] W (fun e W'=>∃ v E',e=.returned v∧ZbW W [] W' E'∧RepM X W' E' []∧Zdt X W' E' [] (.c (.bool (List.any xs p))) v):=by
 obtain ⟨g,caps,rfl,ent,hc⟩:=hc
 refine Zep (T:=⟨[],[Zeg],[],[],some ⟨_,g,caps,rfl,[.s Zae],fun x=>.c (.bool (p x.1)),ent⟩,fun _=>[],0,[],[]⟩) (L:=L0) (args:=[.c (.hs .no Zae xs), .c (.raw ((Value.func (.func g) #[] caps.toArray)))]) Tryz.func38 ⟨rfl,rfl⟩ (fun c hc'=>?_) hsz hgl ⟨v,_,rfl,hv,_,[],rfl,⟨rfl,rfl⟩,rfl⟩ (fun hwf=>?_)
 ·exact ZfL
 refine Eq.mpr (β:=T3 (((Value.func (.func g) #[] caps.toArray)=(Value.func (.func g) #[] caps.toArray)∧(∀ z0:Zad,True)∧∀ (_:Zad→Bool) (_:List Zad),true=true)∧T2 (pt (cB (geI (Zf2 (fun z0:Zad=>(p z0)) xs) 0) (List.any xs p))))) (by kernel_rfl) ?_
 exact ZrC
def ZdX:Zhy Tryz.prog:=⟨38,Zae,true,fun p xs=>.bool (List.any xs p),ZdW,Tryz.call38⟩
def Zgc (xs:List ZbX) (ys:List ZbX):Nat→List AV→Mem→Zbj
 | 4,tm,M=>⟨Nat,fun y=>(Zcn (ZcC tm [(4, .any),(5, .any),(13, .c (.int .i64 ((y:Nat):Int)))]) 14 12,M),fun y=>(y≤List.length xs∧∀ j,j < y→ZaX xs j=ZaX ys j),fun y=>(List.length xs - y)⟩
 | _,_,_=>⟨Unit,fun _=>([],[]),fun _=>False,fun _=>0⟩
theorem Zgd (xs:List ZbX) (ys:List ZbX):Zam Tryz.prog 185 [.c (.hs .no Zay xs), .c (.hs .no Zay ys)] (.c (.bool (Zbw xs ys))) []:=by
 refine bc0 [] [] [] [] (Zgc xs ys) Tryz.func185 (fun hwf=>?_)
 refine Eq.mpr (β:=T6 (bif neI xs.length ys.length then True∧rB false (Zbw xs ys) else T3 ((∃ q:Nat,(q≤xs.length∧∀ j,j < q→ZaX xs j=ZaX ys j)∧lxs [hn Zay xs,hn Zay ys, .tp [], .tp []] (True∧True∧lxs [hn Zay xs,ci xs.length,hn Zay ys,ci ys.length, .c (.bool false),hn Zay xs,ci xs.length] (vI 0 q∧TN 12 True))∧pt (True))∧∀ y0:Nat,(y0≤xs.length∧∀ j,j < y0→ZaX xs j=ZaX ys j)→True∧bif ltI y0 xs.length then T2 (pt (true=true)∧T2 (ix 2 y0 xs.length∧T3 (ix 2 y0 ys.length∧True∧true=true∧bif !(ZoU (ZaX xs y0) (ZaX ys y0)) then True∧rB false (Zbw xs ys) else T2 (∃ y0' : Nat,(y0'≤xs.length∧∀ j,j < y0'→ZaX xs j=ZaX ys j)∧(xs.length - y0') < (xs.length - y0)∧lxs [hn Zay xs,hn Zay ys, .tp [], .tp []] (True∧True∧lxs [hn Zay xs,ci xs.length,hn Zay ys,ci ys.length, .c (.bool false),hn Zay xs,ci xs.length] (vI (w64 ((y0:Int) + 1)) y0'∧TN 12 True))∧pt (True))))) else True∧rB true (Zbw xs ys)))) (by kernel_rfl) ?_
 unfold T2 T3 T6
 simp only [SIA,eq_self]
 have hm:xs.length≤maxLen:=hwf.1.1
 refine ⟨fun hl=>?_,fun hl=>⟨⟨0,⟨Nat.zero_le _,Za7⟩,rfl⟩,fun k hk=>⟨fun hlt=>⟨by omega,by omega,fun hp=>?_,fun hp=>?_⟩,fun hge=>?_⟩⟩⟩
 ·exact (ZcB.2 (fun e=>hl (by rw [e]))).symm
 ·exact (ZcB.2 (fun e=>((Zft.1 hp)) (by rw [e]))).symm
 ·exact ZAl
 ·obtain rfl:k=xs.length:=by omega
  have hl' : xs.length=ys.length:=by omega
  exact (Zer.2 (Zcq (t:=Zay) hl' hk.2)).symm
def Zge:ZaC Tryz.prog:=⟨185,[.v (.list Zay), .v (.list Zay)],fun x=>True,fun x=>.c (.bool (Zbw x.1 x.2.1)),fun _=>[],fun x hx=>Zgd x.1 x.2.1,Tryz.call185⟩
def Zgf (xs:List ZaO) (ys:List ZaO):Nat→List AV→Mem→Zbj
 | 4,tm,M=>⟨Nat,fun y=>(Zcn (ZcC tm [(4, .any),(5, .any),(13, .c (.int .i64 ((y:Nat):Int)))]) 14 12,M),fun y=>(y≤List.length xs∧∀ j,j < y→Zaf xs j=Zaf ys j),fun y=>(List.length xs - y)⟩
 | _,_,_=>⟨Unit,fun _=>([],[]),fun _=>False,fun _=>0⟩
theorem Zgg (xs:List ZaO) (ys:List ZaO):Zam Tryz.prog 241 [.c (.hs .no Zal xs), .c (.hs .no Zal ys)] (.c (.bool (Zdh xs ys))) []:=by
 refine bc0 [] [] [] [] (Zgf xs ys) Tryz.func241 (fun hwf=>?_)
 refine Eq.mpr (β:=T6 (bif neI xs.length ys.length then True∧rB false (Zdh xs ys) else T3 ((∃ q:Nat,(q≤xs.length∧∀ j,j < q→Zaf xs j=Zaf ys j)∧lxs [hn Zal xs,hn Zal ys, .tp [], .tp []] (True∧True∧lxs [hn Zal xs,ci xs.length,hn Zal ys,ci ys.length, .c (.bool false),hn Zal xs,ci xs.length] (vI 0 q∧TN 12 True))∧pt (True))∧∀ y0:Nat,(y0≤xs.length∧∀ j,j < y0→Zaf xs j=Zaf ys j)→True∧bif ltI y0 xs.length then T2 (pt (true=true)∧T2 (ix 4 y0 xs.length∧T3 (ix 4 y0 ys.length∧True∧true=true∧bif !(Zcx (Zaf xs y0) (Zaf ys y0)) then True∧rB false (Zdh xs ys) else T2 (∃ y0' : Nat,(y0'≤xs.length∧∀ j,j < y0'→Zaf xs j=Zaf ys j)∧(xs.length - y0') < (xs.length - y0)∧lxs [hn Zal xs,hn Zal ys, .tp [], .tp []] (True∧True∧lxs [hn Zal xs,ci xs.length,hn Zal ys,ci ys.length, .c (.bool false),hn Zal xs,ci xs.length] (vI (w64 ((y0:Int) + 1)) y0'∧TN 12 True))∧pt (True))))) else True∧rB true (Zdh xs ys)))) (by kernel_rfl) ?_
 unfold T2 T3 T6
 simp only [SIA,eq_self]
 have hm:xs.length≤maxLen:=hwf.1.1
 refine ⟨fun hl=>?_,fun hl=>⟨⟨0,⟨Nat.zero_le _,Za7⟩,rfl⟩,fun k hk=>⟨fun hlt=>⟨by omega,by omega,fun hp=>?_,fun hp=>?_⟩,fun hge=>?_⟩⟩⟩
 ·exact (Zd8.2 (fun e=>hl (by rw [e]))).symm
 ·exact (Zd8.2 (fun e=>((Zfw.1 hp)) (by rw [e]))).symm
 ·exact ZAk
 ·obtain rfl:k=xs.length:=by omega
  have hl' : xs.length=ys.length:=by omega
  exact (Zfv.2 (Zcq (t:=Zal) hl' hk.2)).symm
def Zgh:ZaC Tryz.prog:=⟨241,[.v (.list Zal), .v (.list Zal)],fun x=>True,fun x=>.c (.bool (Zdh x.1 x.2.1)),fun _=>[],fun x hx=>Zgg x.1 x.2.1,Tryz.call241⟩
def Zhj (xs:List Zds) (ys:List Zds):Nat→List AV→Mem→Zbj
 | 4,tm,M=>⟨Nat,fun y=>(Zcn (ZcC tm [(4, .any),(5, .any),(13, .c (.int .i64 ((y:Nat):Int)))]) 14 12,M),fun y=>(y≤List.length xs∧∀ j,j < y→ZaG xs j=ZaG ys j),fun y=>(List.length xs - y)⟩
 | _,_,_=>⟨Unit,fun _=>([],[]),fun _=>False,fun _=>0⟩
theorem Zhk (xs:List Zds) (ys:List Zds):Zam Tryz.prog 237 [.c (.hs .no ZaU xs), .c (.hs .no ZaU ys)] (.c (.bool (Zd0 xs ys))) []:=by
 refine bc0 [] [] [] [] (Zhj xs ys) Tryz.func237 (fun hwf=>?_)
 refine Eq.mpr (β:=T6 (bif neI xs.length ys.length then True∧rB false (Zd0 xs ys) else T3 ((∃ q:Nat,(q≤xs.length∧∀ j,j < q→ZaG xs j=ZaG ys j)∧lxs [hn ZaU xs,hn ZaU ys, .tp [], .tp []] (True∧True∧lxs [hn ZaU xs,ci xs.length,hn ZaU ys,ci ys.length, .c (.bool false),hn ZaU xs,ci xs.length] (vI 0 q∧TN 12 True))∧pt (True))∧∀ y0:Nat,(y0≤xs.length∧∀ j,j < y0→ZaG xs j=ZaG ys j)→True∧bif ltI y0 xs.length then T2 (pt (true=true)∧T2 (ix 3 y0 xs.length∧T3 (ix 3 y0 ys.length∧True∧true=true∧bif !(ZvC (ZaG xs y0) (ZaG ys y0)) then True∧rB false (Zd0 xs ys) else T2 (∃ y0' : Nat,(y0'≤xs.length∧∀ j,j < y0'→ZaG xs j=ZaG ys j)∧(xs.length - y0') < (xs.length - y0)∧lxs [hn ZaU xs,hn ZaU ys, .tp [], .tp []] (True∧True∧lxs [hn ZaU xs,ci xs.length,hn ZaU ys,ci ys.length, .c (.bool false),hn ZaU xs,ci xs.length] (vI (w64 ((y0:Int) + 1)) y0'∧TN 12 True))∧pt (True))))) else True∧rB true (Zd0 xs ys)))) (by kernel_rfl) ?_
 unfold T2 T3 T6
 simp only [SIA,eq_self]
 have hm:xs.length≤maxLen:=hwf.1.1
 refine ⟨fun hl=>?_,fun hl=>⟨⟨0,⟨Nat.zero_le _,Za7⟩,rfl⟩,fun k hk=>⟨fun hlt=>⟨by omega,by omega,fun hp=>?_,fun hp=>?_⟩,fun hge=>?_⟩⟩⟩
 ·exact (Zes.2 (fun e=>hl (by rw [e]))).symm
 ·exact (Zes.2 (fun e=>((Zgr.1 hp)) (by rw [e]))).symm
 ·exact ZAm
 ·obtain rfl:k=xs.length:=by omega
  have hl' : xs.length=ys.length:=by omega
  exact (Zgq.2 (Zcq (t:=ZaU) hl' hk.2)).symm
def Zhl:ZaC Tryz.prog:=⟨237,[.v (.list ZaU), .v (.list ZaU)],fun x=>True,fun x=>.c (.bool (Zd0 x.1 x.2.1)),fun _=>[],fun x hx=>Zhk x.1 x.2.1,Tryz.call237⟩
def Zgi (xs:List ByteArray) (ys:List ByteArray):Nat→List AV→Mem→Zbj
 | 4,tm,M=>⟨Nat,fun y=>(Zcn (ZcC tm [(4, .any),(5, .any),(13, .c (.int .i64 ((y:Nat):Int)))]) 14 12,M),fun y=>(y≤List.length xs∧∀ j,j < y→ZaF xs j=ZaF ys j),fun y=>(List.length xs - y)⟩
 | _,_,_=>⟨Unit,fun _=>([],[]),fun _=>False,fun _=>0⟩
theorem Zgj (xs:List ByteArray) (ys:List ByteArray):Zam Tryz.prog 240 [.c (.hs .no ZaW xs), .c (.hs .no ZaW ys)] (.c (.bool (ZbP xs ys))) []:=by
 refine bc0 [] [] [] [] (Zgi xs ys) Tryz.func240 (fun hwf=>?_)
 refine Eq.mpr (β:=T6 (bif neI xs.length ys.length then True∧rB false (ZbP xs ys) else T3 ((∃ q:Nat,(q≤xs.length∧∀ j,j < q→ZaF xs j=ZaF ys j)∧lxs [hn ZaW xs,hn ZaW ys, .tp [], .tp []] (True∧True∧lxs [hn ZaW xs,ci xs.length,hn ZaW ys,ci ys.length, .c (.bool false),hn ZaW xs,ci xs.length] (vI 0 q∧TN 12 True))∧pt (True))∧∀ y0:Nat,(y0≤xs.length∧∀ j,j < y0→ZaF xs j=ZaF ys j)→True∧bif ltI y0 xs.length then T2 (pt (true=true)∧T2 (ix 1 y0 xs.length∧T3 (ix 1 y0 ys.length∧T2 (bif !eqS (ZaF xs y0) (ZaF ys y0) then True∧rB false (ZbP xs ys) else T2 (∃ y0' : Nat,(y0'≤xs.length∧∀ j,j < y0'→ZaF xs j=ZaF ys j)∧(xs.length - y0') < (xs.length - y0)∧lxs [hn ZaW xs,hn ZaW ys, .tp [], .tp []] (True∧True∧lxs [hn ZaW xs,ci xs.length,hn ZaW ys,ci ys.length, .c (.bool false),hn ZaW xs,ci xs.length] (vI (w64 ((y0:Int) + 1)) y0'∧TN 12 True))∧pt (True)))))) else True∧rB true (ZbP xs ys)))) (by kernel_rfl) ?_
 unfold T2 T3 T6
 simp only [SIA,eq_self]
 have hm:xs.length≤maxLen:=hwf.1.1
 refine ⟨fun hl=>?_,fun hl=>⟨⟨0,⟨Nat.zero_le _,Za7⟩,rfl⟩,fun k hk=>⟨fun hlt=>⟨by omega,by omega,fun hp=>?_,fun hp=>?_⟩,fun hge=>?_⟩⟩⟩
 ·exact (Zcs.2 (fun e=>hl (by rw [e]))).symm
 ·exact (Zcs.2 (fun e=>(hp) (by rw [e]))).symm
 ·exact ZdA
 ·obtain rfl:k=xs.length:=by omega
  have hl' : xs.length=ys.length:=by omega
  exact (ZdP.2 (Zcq (t:=ZaW) hl' hk.2)).symm
def Zgk:ZaC Tryz.prog:=⟨240,[.v (.list ZaW), .v (.list ZaW)],fun x=>True,fun x=>.c (.bool (ZbP x.1 x.2.1)),fun _=>[],fun x hx=>Zgj x.1 x.2.1,Tryz.call240⟩
def Zc2 (p:ZaZ→ZaZ→Bool) (xs ys:List ZaZ):Nat→List AV→Mem→Zbj
 | 4,tm,M=>⟨Nat,fun y=>(Zcn (Zcn (ZcC tm [(17, .c (.int .i64 ((y:Nat):Int)))]) 6 4) 18 14,M),fun y=>(y≤List.length xs∧∀ j,j < y→p (Zaq xs j) (Zaq ys j)=true),fun y=>(List.length xs - y)⟩
 | _,_,_=>⟨Unit,fun _=>([],[]),fun _=>False,fun _=>0⟩
theorem Zc3 (p:ZaZ→ZaZ→Bool) (xs ys:List ZaZ) (u:Value) (X:List Nat) (W:World) (v:Value) (v2:Value) (hsz:∀ b ∈ X,b < W.heap.size) (hgl:Zjp W []) (hv:Zb7 X W [] [] (.hs .no Zak xs) v) (hv2:Zb7 X W [] [] (.hs .no Zak ys) v2) (hc:ZvG X W Tryz.prog u true Zak p) :
 Calls Tryz.prog 238 #[v,v2,u] W (fun e W'=>∃ v E',e=.returned v∧ZbW W [] W' E'∧RepM X W' E' []∧Zdt X W' E' [] (.c (.bool (ZkR p xs ys))) v):=by
 obtain ⟨g,caps,rfl,ent,hc⟩:=hc
 refine Zep (T:=⟨[],[],[],[],some ⟨_,g,caps,rfl,[.s Zak, .s Zak],fun x=>.c (.bool (p x.1 x.2.1)),ent⟩,fun _=>[],0,[],[]⟩) (L:=(Zc2 p xs ys)) (args:=[.c (.hs .no Zak xs), .c (.hs .no Zak ys), .c (.raw ((Value.func (.func g) #[] caps.toArray)))]) Tryz.func238 ⟨rfl,rfl⟩ (fun c hc'=>?_) hsz hgl ⟨v,_,rfl,hv,v2,_,rfl,hv2,_,[],rfl,⟨rfl,rfl⟩,rfl⟩ (fun hwf=>?_)
 ·exact Zzv
 refine Eq.mpr (β:=T6 (bif neI xs.length ys.length then True∧pt (cB false (ZkR p xs ys)) else T3 ((∃ q:Nat,(q≤xs.length∧∀ j,j < q→p (Zaq xs j) (Zaq ys j)=true)∧lxs [hn Zak xs,hn Zak ys, .c (.raw ((Value.func (.func g) #[] caps.toArray)))] (tpn 3 (TN 4 (lxs [hn Zak xs,ci xs.length,hn Zak ys,ci ys.length, .c (.bool false),hn Zak xs,ci xs.length] (vI 0 q∧TN 14 True))))∧pt (True))∧∀ y0:Nat,(y0≤xs.length∧∀ j,j < y0→p (Zaq xs j) (Zaq ys j)=true)→True∧bif ltI y0 xs.length then True∧ix 3 y0 xs.length∧T6 (ix 3 y0 ys.length∧T6 (pt ((Value.func (.func g) #[] caps.toArray)=(Value.func (.func g) #[] caps.toArray))∧True∧bif !(p (Zaq xs y0) (Zaq ys y0)) then True∧pt (cB false (ZkR p xs ys)) else T2 (∃ y0' : Nat,(y0'≤xs.length∧∀ j,j < y0'→p (Zaq xs j) (Zaq ys j)=true)∧(xs.length - y0') < (xs.length - y0)∧lxs [hn Zak xs,hn Zak ys, .c (.raw ((Value.func (.func g) #[] caps.toArray)))] (tpn 3 (TN 4 (lxs [hn Zak xs,ci xs.length,hn Zak ys,ci ys.length, .c (.bool false),hn Zak xs,ci xs.length] (vI (w64 ((y0:Int) + 1)) y0'∧TN 14 True))))∧pt (True)))) else True∧pt (cB true (ZkR p xs ys))))) (by kernel_rfl) ?_
 simp only [SIA,eq_self]
 have hm:xs.length≤maxLen:=hwf.1.1
 refine ⟨fun hl=>?_,fun hl=>⟨⟨0,⟨Nat.zero_le _,Za7⟩,rfl⟩,fun k hk=>⟨fun hlt=>⟨by omega,by omega,fun hp=>?_,fun hp=>?_⟩,fun hge=>?_⟩⟩⟩
 ·exact (Zv3 (fun e=>hl (by rw [e]))).symm
 ·have hk1:k < xs.length:=by omega
  have hk2:k < ys.length:=by omega
  exact (ZqH (t:=Zak) hk1 hk2 hp).symm
 ·exact ZdA
 ·obtain rfl:k=xs.length:=by omega
  have hl' : xs.length=ys.length:=by omega
  exact (ZFa (t:=Zak) hl' hk.2).symm
def Zc4:Zj9 Tryz.prog:=⟨238,Zak,true,fun p xs ys=>.bool (ZkR p xs ys),Zc3,Tryz.call238⟩
def ZdJ (p:ZaM→ZaM→Bool) (xs ys:List ZaM):Nat→List AV→Mem→Zbj
 | 4,tm,M=>⟨Nat,fun y=>(Zcn (Zcn (ZcC tm [(17, .c (.int .i64 ((y:Nat):Int)))]) 6 4) 18 14,M),fun y=>(y≤List.length xs∧∀ j,j < y→p (Zab xs j) (Zab ys j)=true),fun y=>(List.length xs - y)⟩
 | _,_,_=>⟨Unit,fun _=>([],[]),fun _=>False,fun _=>0⟩
theorem ZdK (p:ZaM→ZaM→Bool) (xs ys:List ZaM) (u:Value) (X:List Nat) (W:World) (v:Value) (v2:Value) (hsz:∀ b ∈ X,b < W.heap.size) (hgl:Zjp W []) (hv:Zb7 X W [] [] (.hs .no Zaj xs) v) (hv2:Zb7 X W [] [] (.hs .no Zaj ys) v2) (hc:ZvG X W Tryz.prog u true Zaj p) :
 Calls Tryz.prog 169 #[v,v2,u] W (fun e W'=>∃ v E',e=.returned v∧ZbW W [] W' E'∧RepM X W' E' []∧Zdt X W' E' [] (.c (.bool (ZkR p xs ys))) v):=by
 obtain ⟨g,caps,rfl,ent,hc⟩:=hc
 refine Zep (T:=⟨[],[],[],[],some ⟨_,g,caps,rfl,[.s Zaj, .s Zaj],fun x=>.c (.bool (p x.1 x.2.1)),ent⟩,fun _=>[],0,[],[]⟩) (L:=(ZdJ p xs ys)) (args:=[.c (.hs .no Zaj xs), .c (.hs .no Zaj ys), .c (.raw ((Value.func (.func g) #[] caps.toArray)))]) Tryz.func169 ⟨rfl,rfl⟩ (fun c hc'=>?_) hsz hgl ⟨v,_,rfl,hv,v2,_,rfl,hv2,_,[],rfl,⟨rfl,rfl⟩,rfl⟩ (fun hwf=>?_)
 ·exact Zzv
 refine Eq.mpr (β:=T6 (bif neI xs.length ys.length then True∧pt (cB false (ZkR p xs ys)) else T3 ((∃ q:Nat,(q≤xs.length∧∀ j,j < q→p (Zab xs j) (Zab ys j)=true)∧lxs [hn Zaj xs,hn Zaj ys, .c (.raw ((Value.func (.func g) #[] caps.toArray)))] (tpn 3 (TN 4 (lxs [hn Zaj xs,ci xs.length,hn Zaj ys,ci ys.length, .c (.bool false),hn Zaj xs,ci xs.length] (vI 0 q∧TN 14 True))))∧pt (True))∧∀ y0:Nat,(y0≤xs.length∧∀ j,j < y0→p (Zab xs j) (Zab ys j)=true)→True∧bif ltI y0 xs.length then True∧ix 4 y0 xs.length∧T6 (ix 4 y0 ys.length∧T6 (pt ((Value.func (.func g) #[] caps.toArray)=(Value.func (.func g) #[] caps.toArray))∧True∧bif !(p (Zab xs y0) (Zab ys y0)) then True∧pt (cB false (ZkR p xs ys)) else T2 (∃ y0' : Nat,(y0'≤xs.length∧∀ j,j < y0'→p (Zab xs j) (Zab ys j)=true)∧(xs.length - y0') < (xs.length - y0)∧lxs [hn Zaj xs,hn Zaj ys, .c (.raw ((Value.func (.func g) #[] caps.toArray)))] (tpn 3 (TN 4 (lxs [hn Zaj xs,ci xs.length,hn Zaj ys,ci ys.length, .c (.bool false),hn Zaj xs,ci xs.length] (vI (w64 ((y0:Int) + 1)) y0'∧TN 14 True))))∧pt (True)))) else True∧pt (cB true (ZkR p xs ys))))) (by kernel_rfl) ?_
 simp only [SIA,eq_self]
 have hm:xs.length≤maxLen:=hwf.1.1
 refine ⟨fun hl=>?_,fun hl=>⟨⟨0,⟨Nat.zero_le _,Za7⟩,rfl⟩,fun k hk=>⟨fun hlt=>⟨by omega,by omega,fun hp=>?_,fun hp=>?_⟩,fun hge=>?_⟩⟩⟩
 ·exact (Zv3 (fun e=>hl (by rw [e]))).symm
 ·have hk1:k < xs.length:=by omega
  have hk2:k < ys.length:=by omega
  exact (ZqH (t:=Zaj) hk1 hk2 hp).symm
 ·exact ZdA
 ·obtain rfl:k=xs.length:=by omega
  have hl' : xs.length=ys.length:=by omega
  exact (ZFa (t:=Zaj) hl' hk.2).symm
def ZdL:Zj9 Tryz.prog:=⟨169,Zaj,true,fun p xs ys=>.bool (ZkR p xs ys),ZdK,Tryz.call169⟩
end Go.Proofs.YtkompmgleojmlaaGreat
