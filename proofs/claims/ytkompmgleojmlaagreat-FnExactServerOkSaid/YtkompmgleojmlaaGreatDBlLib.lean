import Derived.Test.YtkompmgleojmlaaGreatDBmTy
set_option linter.unusedSimpArgs false
set_option linter.unusedVariables false
set_option maxRecDepth 100000
set_option maxHeartbeats 4000000
namespace Go.Proofs.YtkompmgleojmlaaGreat
open Go.ChangeShapes Go.WideShapes Go.ChangeAt Go.RowKit Go.Joins Go.Deep
open GoRep (rep bulk)
def ZdC (p:ZaK→Bool) (xs:List ZaK):Nat→List AV→Mem→Za3
  | 2,tm,M=>⟨Nat,fun y=>(Zb2 (Zcx tm [(4, .any),(5, .any),(8, .c (.int .i64 ((y:Nat):Int)))]) 9 10,M),fun y=>(y≤List.length xs∧∀ j,j < y→p (Zav xs j)=false),fun y=>(List.length xs - y)⟩
  | _,_,_=>⟨Unit,fun _=>([],[]),fun _=>False,fun _=>0⟩
theorem ZdD (p:ZaK→Bool) (xs:List ZaK) (u:Value) (X:List Nat) (W:World) (v:Value) (hsz:∀ b ∈ X,b < W.heap.size) (hgl:Zjd W []) (hv:Zbm X W [] [] (.hs .no Zak xs) v) (hc:Zje X W Tryz.prog u true Zak p) :
    Calls Tryz.prog 242 #[v,u] W (fun e W'=>∃ v E',e=.returned v∧Zbe W [] W' E'∧RepM X W' E' []∧Zcu X W' E' [] (.c (.int .i64 (ZeC p xs))) v):=by
  obtain ⟨g,caps,rfl,ent,hc⟩:=hc
  refine Zdk (T:=⟨[],[],[],[],some ⟨_,g,caps,rfl,[.s Zak],fun x=>.c (.bool (p x.1)),ent⟩,fun _=>[],0,[],[]⟩) (L:=(ZdC p xs)) (args:=[.c (.hs .no Zak xs), .c (.raw ((Value.func (.func g) #[] caps.toArray)))]) Tryz.func242 ⟨rfl,rfl⟩ (fun c hc'=>?_) hsz hgl ⟨v,_,rfl,hv,_,[],rfl,⟨rfl,rfl⟩,rfl⟩ (fun hwf=>?_)
  · exact Zep
  refine Eq.mpr (β:=(T4 ((∃ q:Nat,(q≤List.length xs∧∀ j,j < q→p (Zav xs j)=false)∧((lxs [hn Zak xs, .c (.raw ((Value.func (.func g) #[] caps.toArray))), .tp [], .tp []] (True∧True∧lxs [hn Zak xs,ci (List.length xs)] (vI 0 q∧TN 10 True)))∧pt (True)))∧∀ y0:Nat,(y0≤List.length xs∧∀ j,j < y0→p (Zav xs j)=false)→(True∧(bif (ltI y0 (List.length xs)) then (T5 ((ix 3 y0 (List.length xs))∧(True∧((pt ((Value.func (.func g) #[] caps.toArray)=(Value.func (.func g) #[] caps.toArray)))∧(bif (p (Zav xs y0)) then (T2 (pt (cI y0 (ZeC p xs)))) else (T2 (∃ y0' : Nat,(y0'≤List.length xs∧∀ j,j < y0'→p (Zav xs j)=false)∧(List.length xs - y0') < (List.length xs - y0)∧((lxs [hn Zak xs, .c (.raw ((Value.func (.func g) #[] caps.toArray))), .tp [], .tp []] (True∧True∧lxs [hn Zak xs,ci (List.length xs)] (vI (w64 ((y0:Int) + 1)) y0'∧TN 10 True)))∧pt (True))))))))) else (True∧(pt (cI (-1) (ZeC p xs))))))))) (by kernel_rfl) ?_
  simp only [SIA,eq_self]
  have hm:xs.length≤maxLen:=hwf.1.1
  refine ⟨⟨0,⟨Nat.zero_le _,ZaH⟩,rfl⟩,fun k hk=>⟨fun hlt=>⟨by omega,fun hp=>?_,fun hp=>?_⟩,fun hge=>?_⟩⟩
  · have hk' : k < xs.length:=by omega
    exact (Zd7 (t:=Zak) hk' hk.2 hp).symm
  · exact Zcz
  · obtain rfl:k=xs.length:=by omega
    exact (ZbH (t:=Zak) hk.2).symm
def ZdE:ZfW Tryz.prog:=⟨242,Zak,true,fun p xs=>.int .i64 (ZeC p xs),ZdD,Tryz.call242⟩
theorem Zdd (p:ZaK→Bool) (xs:List ZaK) (u:Value) (X:List Nat) (W:World) (v:Value) (hsz:∀ b ∈ X,b < W.heap.size) (hgl:Zjd W []) (hv:Zbm X W [] [] (.hs .no Zak xs) v) (hc:Zje X W Tryz.prog u true Zak p) :
    Calls Tryz.prog 174 #[v,u] W (fun e W'=>∃ v E',e=.returned v∧Zbe W [] W' E'∧RepM X W' E' []∧Zcu X W' E' [] (.c (.bool (List.any xs p))) v):=by
  obtain ⟨g,caps,rfl,ent,hc⟩:=hc
  refine Zdk (T:=⟨[],[ZdE],[],[],some ⟨_,g,caps,rfl,[.s Zak],fun x=>.c (.bool (p x.1)),ent⟩,fun _=>[],0,[],[]⟩) (L:=L0) (args:=[.c (.hs .no Zak xs), .c (.raw ((Value.func (.func g) #[] caps.toArray)))]) Tryz.func174 ⟨rfl,rfl⟩ (fun c hc'=>?_) hsz hgl ⟨v,_,rfl,hv,_,[],rfl,⟨rfl,rfl⟩,rfl⟩ (fun hwf=>?_)
  · exact Zep
  refine Eq.mpr (β:=(T3 (((Value.func (.func g) #[] caps.toArray)=(Value.func (.func g) #[] caps.toArray)∧(∀ z0:ZaK,True)∧∀ (_:ZaK→Bool) (_:List ZaK),true=true)∧(T2 (pt (cB (geI (ZeC (fun z0:ZaK=>(p z0)) xs) 0) (List.any xs p))))))) (by kernel_rfl) ?_
  exact ZoM
def Zde:ZfW Tryz.prog:=⟨174,Zak,true,fun p xs=>.bool (List.any xs p),Zdd,Tryz.call174⟩
def Zed (p:Zaw→Bool) (xs:List Zaw):Nat→List AV→Mem→Za3
  | 2,tm,M=>⟨Nat,fun y=>(Zb2 (Zcx tm [(4, .any),(5, .any),(8, .c (.int .i64 ((y:Nat):Int)))]) 9 10,M),fun y=>(y≤List.length xs∧∀ j,j < y→p (Zaa xs j)=false),fun y=>(List.length xs - y)⟩
  | _,_,_=>⟨Unit,fun _=>([],[]),fun _=>False,fun _=>0⟩
theorem Zee (p:Zaw→Bool) (xs:List Zaw) (u:Value) (X:List Nat) (W:World) (v:Value) (hsz:∀ b ∈ X,b < W.heap.size) (hgl:Zjd W []) (hv:Zbm X W [] [] (.hs .no Zaf xs) v) (hc:Zje X W Tryz.prog u true Zaf p) :
    Calls Tryz.prog 183 #[v,u] W (fun e W'=>∃ v E',e=.returned v∧Zbe W [] W' E'∧RepM X W' E' []∧Zcu X W' E' [] (.c (.int .i64 (ZeC p xs))) v):=by
  obtain ⟨g,caps,rfl,ent,hc⟩:=hc
  refine Zdk (T:=⟨[],[],[],[],some ⟨_,g,caps,rfl,[.s Zaf],fun x=>.c (.bool (p x.1)),ent⟩,fun _=>[],0,[],[]⟩) (L:=(Zed p xs)) (args:=[.c (.hs .no Zaf xs), .c (.raw ((Value.func (.func g) #[] caps.toArray)))]) Tryz.func183 ⟨rfl,rfl⟩ (fun c hc'=>?_) hsz hgl ⟨v,_,rfl,hv,_,[],rfl,⟨rfl,rfl⟩,rfl⟩ (fun hwf=>?_)
  · exact Zep
  refine Eq.mpr (β:=(T4 ((∃ q:Nat,(q≤List.length xs∧∀ j,j < q→p (Zaa xs j)=false)∧((lxs [hn Zaf xs, .c (.raw ((Value.func (.func g) #[] caps.toArray))), .tp [], .tp []] (True∧True∧lxs [hn Zaf xs,ci (List.length xs)] (vI 0 q∧TN 10 True)))∧pt (True)))∧∀ y0:Nat,(y0≤List.length xs∧∀ j,j < y0→p (Zaa xs j)=false)→(True∧(bif (ltI y0 (List.length xs)) then (T5 ((ix 4 y0 (List.length xs))∧(True∧((pt ((Value.func (.func g) #[] caps.toArray)=(Value.func (.func g) #[] caps.toArray)))∧(bif (p (Zaa xs y0)) then (T2 (pt (cI y0 (ZeC p xs)))) else (T2 (∃ y0' : Nat,(y0'≤List.length xs∧∀ j,j < y0'→p (Zaa xs j)=false)∧(List.length xs - y0') < (List.length xs - y0)∧((lxs [hn Zaf xs, .c (.raw ((Value.func (.func g) #[] caps.toArray))), .tp [], .tp []] (True∧True∧lxs [hn Zaf xs,ci (List.length xs)] (vI (w64 ((y0:Int) + 1)) y0'∧TN 10 True)))∧pt (True))))))))) else (True∧(pt (cI (-1) (ZeC p xs))))))))) (by kernel_rfl) ?_
  simp only [SIA,eq_self]
  have hm:xs.length≤maxLen:=hwf.1.1
  refine ⟨⟨0,⟨Nat.zero_le _,ZaH⟩,rfl⟩,fun k hk=>⟨fun hlt=>⟨by omega,fun hp=>?_,fun hp=>?_⟩,fun hge=>?_⟩⟩
  · have hk' : k < xs.length:=by omega
    exact (Zd7 (t:=Zaf) hk' hk.2 hp).symm
  · exact Zcz
  · obtain rfl:k=xs.length:=by omega
    exact (ZbH (t:=Zaf) hk.2).symm
def ZcC:ZfW Tryz.prog:=⟨183,Zaf,true,fun p xs=>.int .i64 (ZeC p xs),Zee,Tryz.call183⟩
def ZdO (p:Zaz→Bool) (xs:List Zaz):Nat→List AV→Mem→Za3
  | 2,tm,M=>⟨Nat,fun y=>(Zb2 (Zcx tm [(4, .any),(5, .any),(8, .c (.int .i64 ((y:Nat):Int)))]) 9 10,M),fun y=>(y≤List.length xs∧∀ j,j < y→p (Zad xs j)=false),fun y=>(List.length xs - y)⟩
  | _,_,_=>⟨Unit,fun _=>([],[]),fun _=>False,fun _=>0⟩
theorem ZdP (p:Zaz→Bool) (xs:List Zaz) (u:Value) (X:List Nat) (W:World) (v:Value) (hsz:∀ b ∈ X,b < W.heap.size) (hgl:Zjd W []) (hv:Zbm X W [] [] (.hs .no Zah xs) v) (hc:Zje X W Tryz.prog u true Zah p) :
    Calls Tryz.prog 246 #[v,u] W (fun e W'=>∃ v E',e=.returned v∧Zbe W [] W' E'∧RepM X W' E' []∧Zcu X W' E' [] (.c (.int .i64 (ZeC p xs))) v):=by
  obtain ⟨g,caps,rfl,ent,hc⟩:=hc
  refine Zdk (T:=⟨[],[],[],[],some ⟨_,g,caps,rfl,[.s Zah],fun x=>.c (.bool (p x.1)),ent⟩,fun _=>[],0,[],[]⟩) (L:=(ZdO p xs)) (args:=[.c (.hs .no Zah xs), .c (.raw ((Value.func (.func g) #[] caps.toArray)))]) Tryz.func246 ⟨rfl,rfl⟩ (fun c hc'=>?_) hsz hgl ⟨v,_,rfl,hv,_,[],rfl,⟨rfl,rfl⟩,rfl⟩ (fun hwf=>?_)
  · exact Zep
  refine Eq.mpr (β:=(T4 ((∃ q:Nat,(q≤List.length xs∧∀ j,j < q→p (Zad xs j)=false)∧((lxs [hn Zah xs, .c (.raw ((Value.func (.func g) #[] caps.toArray))), .tp [], .tp []] (True∧True∧lxs [hn Zah xs,ci (List.length xs)] (vI 0 q∧TN 10 True)))∧pt (True)))∧∀ y0:Nat,(y0≤List.length xs∧∀ j,j < y0→p (Zad xs j)=false)→(True∧(bif (ltI y0 (List.length xs)) then (T5 ((ix 4 y0 (List.length xs))∧(True∧((pt ((Value.func (.func g) #[] caps.toArray)=(Value.func (.func g) #[] caps.toArray)))∧(bif (p (Zad xs y0)) then (T2 (pt (cI y0 (ZeC p xs)))) else (T2 (∃ y0' : Nat,(y0'≤List.length xs∧∀ j,j < y0'→p (Zad xs j)=false)∧(List.length xs - y0') < (List.length xs - y0)∧((lxs [hn Zah xs, .c (.raw ((Value.func (.func g) #[] caps.toArray))), .tp [], .tp []] (True∧True∧lxs [hn Zah xs,ci (List.length xs)] (vI (w64 ((y0:Int) + 1)) y0'∧TN 10 True)))∧pt (True))))))))) else (True∧(pt (cI (-1) (ZeC p xs))))))))) (by kernel_rfl) ?_
  simp only [SIA,eq_self]
  have hm:xs.length≤maxLen:=hwf.1.1
  refine ⟨⟨0,⟨Nat.zero_le _,ZaH⟩,rfl⟩,fun k hk=>⟨fun hlt=>⟨by omega,fun hp=>?_,fun hp=>?_⟩,fun hge=>?_⟩⟩
  · have hk' : k < xs.length:=by omega
    exact (Zd7 (t:=Zah) hk' hk.2 hp).symm
  · exact Zcz
  · obtain rfl:k=xs.length:=by omega
    exact (ZbH (t:=Zah) hk.2).symm
def ZdQ:ZfW Tryz.prog:=⟨246,Zah,true,fun p xs=>.int .i64 (ZeC p xs),ZdP,Tryz.call246⟩
theorem Zds (p:Zaz→Bool) (xs:List Zaz) (u:Value) (X:List Nat) (W:World) (v:Value) (hsz:∀ b ∈ X,b < W.heap.size) (hgl:Zjd W []) (hv:Zbm X W [] [] (.hs .no Zah xs) v) (hc:Zje X W Tryz.prog u true Zah p) :
    Calls Tryz.prog 181 #[v,u] W (fun e W'=>∃ v E',e=.returned v∧Zbe W [] W' E'∧RepM X W' E' []∧Zcu X W' E' [] (.c (.bool (List.any xs p))) v):=by
  obtain ⟨g,caps,rfl,ent,hc⟩:=hc
  refine Zdk (T:=⟨[],[ZdQ],[],[],some ⟨_,g,caps,rfl,[.s Zah],fun x=>.c (.bool (p x.1)),ent⟩,fun _=>[],0,[],[]⟩) (L:=L0) (args:=[.c (.hs .no Zah xs), .c (.raw ((Value.func (.func g) #[] caps.toArray)))]) Tryz.func181 ⟨rfl,rfl⟩ (fun c hc'=>?_) hsz hgl ⟨v,_,rfl,hv,_,[],rfl,⟨rfl,rfl⟩,rfl⟩ (fun hwf=>?_)
  · exact Zep
  refine Eq.mpr (β:=(T3 (((Value.func (.func g) #[] caps.toArray)=(Value.func (.func g) #[] caps.toArray)∧(∀ z0:Zaz,True)∧∀ (_:Zaz→Bool) (_:List Zaz),true=true)∧(T2 (pt (cB (geI (ZeC (fun z0:Zaz=>(p z0)) xs) 0) (List.any xs p))))))) (by kernel_rfl) ?_
  exact ZoM
def Zdt:ZfW Tryz.prog:=⟨181,Zah,true,fun p xs=>.bool (List.any xs p),Zds,Tryz.call181⟩
def Zef (p:Zc7→Bool) (xs:List Zc7):Nat→List AV→Mem→Za3
  | 2,tm,M=>⟨Nat,fun y=>(Zb2 (Zcx tm [(4, .any),(5, .any),(8, .c (.int .i64 ((y:Nat):Int)))]) 9 10,M),fun y=>(y≤List.length xs∧∀ j,j < y→p (Zay xs j)=false),fun y=>(List.length xs - y)⟩
  | _,_,_=>⟨Unit,fun _=>([],[]),fun _=>False,fun _=>0⟩
theorem Zeg (p:Zc7→Bool) (xs:List Zc7) (u:Value) (X:List Nat) (W:World) (v:Value) (hsz:∀ b ∈ X,b < W.heap.size) (hgl:Zjd W []) (hv:Zbm X W [] [] (.hs .no ZaF xs) v) (hc:Zje X W Tryz.prog u true ZaF p) :
    Calls Tryz.prog 271 #[v,u] W (fun e W'=>∃ v E',e=.returned v∧Zbe W [] W' E'∧RepM X W' E' []∧Zcu X W' E' [] (.c (.int .i64 (ZeC p xs))) v):=by
  obtain ⟨g,caps,rfl,ent,hc⟩:=hc
  refine Zdk (T:=⟨[],[],[],[],some ⟨_,g,caps,rfl,[.s ZaF],fun x=>.c (.bool (p x.1)),ent⟩,fun _=>[],0,[],[]⟩) (L:=(Zef p xs)) (args:=[.c (.hs .no ZaF xs), .c (.raw ((Value.func (.func g) #[] caps.toArray)))]) Tryz.func271 ⟨rfl,rfl⟩ (fun c hc'=>?_) hsz hgl ⟨v,_,rfl,hv,_,[],rfl,⟨rfl,rfl⟩,rfl⟩ (fun hwf=>?_)
  · exact Zep
  refine Eq.mpr (β:=(T4 ((∃ q:Nat,(q≤List.length xs∧∀ j,j < q→p (Zay xs j)=false)∧((lxs [hn ZaF xs, .c (.raw ((Value.func (.func g) #[] caps.toArray))), .tp [], .tp []] (True∧True∧lxs [hn ZaF xs,ci (List.length xs)] (vI 0 q∧TN 10 True)))∧pt (True)))∧∀ y0:Nat,(y0≤List.length xs∧∀ j,j < y0→p (Zay xs j)=false)→(True∧(bif (ltI y0 (List.length xs)) then (T5 ((ix 3 y0 (List.length xs))∧(True∧((pt ((Value.func (.func g) #[] caps.toArray)=(Value.func (.func g) #[] caps.toArray)))∧(bif (p (Zay xs y0)) then (T2 (pt (cI y0 (ZeC p xs)))) else (T2 (∃ y0' : Nat,(y0'≤List.length xs∧∀ j,j < y0'→p (Zay xs j)=false)∧(List.length xs - y0') < (List.length xs - y0)∧((lxs [hn ZaF xs, .c (.raw ((Value.func (.func g) #[] caps.toArray))), .tp [], .tp []] (True∧True∧lxs [hn ZaF xs,ci (List.length xs)] (vI (w64 ((y0:Int) + 1)) y0'∧TN 10 True)))∧pt (True))))))))) else (True∧(pt (cI (-1) (ZeC p xs))))))))) (by kernel_rfl) ?_
  simp only [SIA,eq_self]
  have hm:xs.length≤maxLen:=hwf.1.1
  refine ⟨⟨0,⟨Nat.zero_le _,ZaH⟩,rfl⟩,fun k hk=>⟨fun hlt=>⟨by omega,fun hp=>?_,fun hp=>?_⟩,fun hge=>?_⟩⟩
  · have hk' : k < xs.length:=by omega
    exact (Zd7 (t:=ZaF) hk' hk.2 hp).symm
  · exact Zcz
  · obtain rfl:k=xs.length:=by omega
    exact (ZbH (t:=ZaF) hk.2).symm
def Zeh:ZfW Tryz.prog:=⟨271,ZaF,true,fun p xs=>.int .i64 (ZeC p xs),Zeg,Tryz.call271⟩
def Zc8 (p:Zac→Bool) (xs:List Zac):Nat→List AV→Mem→Za3
  | 2,tm,M=>⟨Nat,fun y=>(Zb2 (Zcx tm [(4, .any),(5, .any),(8, .c (.int .i64 ((y:Nat):Int)))]) 9 10,M),fun y=>(y≤List.length xs∧∀ j,j < y→p (ZaA xs j)=false),fun y=>(List.length xs - y)⟩
  | _,_,_=>⟨Unit,fun _=>([],[]),fun _=>False,fun _=>0⟩
theorem Zc9 (p:Zac→Bool) (xs:List Zac) (u:Value) (X:List Nat) (W:World) (v:Value) (hsz:∀ b ∈ X,b < W.heap.size) (hgl:Zjd W []) (hv:Zbm X W [] [] (.hs .no Zag xs) v) (hc:Zje X W Tryz.prog u true Zag p) :
    Calls Tryz.prog 92 #[v,u] W (fun e W'=>∃ v E',e=.returned v∧Zbe W [] W' E'∧RepM X W' E' []∧Zcu X W' E' [] (.c (.int .i64 (ZeC p xs))) v):=by
  obtain ⟨g,caps,rfl,ent,hc⟩:=hc
  refine Zdk (T:=⟨[],[],[],[],some ⟨_,g,caps,rfl,[.s Zag],fun x=>.c (.bool (p x.1)),ent⟩,fun _=>[],0,[],[]⟩) (L:=(Zc8 p xs)) (args:=[.c (.hs .no Zag xs), .c (.raw ((Value.func (.func g) #[] caps.toArray)))]) Tryz.func92 ⟨rfl,rfl⟩ (fun c hc'=>?_) hsz hgl ⟨v,_,rfl,hv,_,[],rfl,⟨rfl,rfl⟩,rfl⟩ (fun hwf=>?_)
  · exact Zep
  refine Eq.mpr (β:=(T4 ((∃ q:Nat,(q≤List.length xs∧∀ j,j < q→p (ZaA xs j)=false)∧((lxs [hn Zag xs, .c (.raw ((Value.func (.func g) #[] caps.toArray))), .tp [], .tp []] (True∧True∧lxs [hn Zag xs,ci (List.length xs)] (vI 0 q∧TN 10 True)))∧pt (True)))∧∀ y0:Nat,(y0≤List.length xs∧∀ j,j < y0→p (ZaA xs j)=false)→(True∧(bif (ltI y0 (List.length xs)) then (T5 ((ix 17 y0 (List.length xs))∧(True∧((pt ((Value.func (.func g) #[] caps.toArray)=(Value.func (.func g) #[] caps.toArray)))∧(bif (p (ZaA xs y0)) then (T2 (pt (cI y0 (ZeC p xs)))) else (T2 (∃ y0' : Nat,(y0'≤List.length xs∧∀ j,j < y0'→p (ZaA xs j)=false)∧(List.length xs - y0') < (List.length xs - y0)∧((lxs [hn Zag xs, .c (.raw ((Value.func (.func g) #[] caps.toArray))), .tp [], .tp []] (True∧True∧lxs [hn Zag xs,ci (List.length xs)] (vI (w64 ((y0:Int) + 1)) y0'∧TN 10 True)))∧pt (True))))))))) else (True∧(pt (cI (-1) (ZeC p xs))))))))) (by kernel_rfl) ?_
  simp only [SIA,eq_self]
  have hm:xs.length≤maxLen:=hwf.1.1
  refine ⟨⟨0,⟨Nat.zero_le _,ZaH⟩,rfl⟩,fun k hk=>⟨fun hlt=>⟨by omega,fun hp=>?_,fun hp=>?_⟩,fun hge=>?_⟩⟩
  · have hk' : k < xs.length:=by omega
    exact (Zd7 (t:=Zag) hk' hk.2 hp).symm
  · exact Zcz
  · obtain rfl:k=xs.length:=by omega
    exact (ZbH (t:=Zag) hk.2).symm
def Zda:ZfW Tryz.prog:=⟨92,Zag,true,fun p xs=>.int .i64 (ZeC p xs),Zc9,Tryz.call92⟩
theorem ZcS (p:Zac→Bool) (xs:List Zac) (u:Value) (X:List Nat) (W:World) (v:Value) (hsz:∀ b ∈ X,b < W.heap.size) (hgl:Zjd W []) (hv:Zbm X W [] [] (.hs .no Zag xs) v) (hc:Zje X W Tryz.prog u true Zag p) :
    Calls Tryz.prog 38 #[v,u] W (fun e W'=>∃ v E',e=.returned v∧Zbe W [] W' E'∧RepM X W' E' []∧Zcu X W' E' [] (.c (.bool (List.any xs p))) v):=by
  obtain ⟨g,caps,rfl,ent,hc⟩:=hc
  refine Zdk (T:=⟨[],[Zda],[],[],some ⟨_,g,caps,rfl,[.s Zag],fun x=>.c (.bool (p x.1)),ent⟩,fun _=>[],0,[],[]⟩) (L:=L0) (args:=[.c (.hs .no Zag xs), .c (.raw ((Value.func (.func g) #[] caps.toArray)))]) Tryz.func38 ⟨rfl,rfl⟩ (fun c hc'=>?_) hsz hgl ⟨v,_,rfl,hv,_,[],rfl,⟨rfl,rfl⟩,rfl⟩ (fun hwf=>?_)
  · exact Zep
  refine Eq.mpr (β:=(T3 (((Value.func (.func g) #[] caps.toArray)=(Value.func (.func g) #[] caps.toArray)∧(∀ z0:Zac,True)∧∀ (_:Zac→Bool) (_:List Zac),true=true)∧(T2 (pt (cB (geI (ZeC (fun z0:Zac=>(p z0)) xs) 0) (List.any xs p))))))) (by kernel_rfl) ?_
  exact ZoM
def ZcT:ZfW Tryz.prog:=⟨38,Zag,true,fun p xs=>.bool (List.any xs p),ZcS,Tryz.call38⟩
def ZeG (xs:List ZbB) (ys:List ZbB):Nat→List AV→Mem→Za3
  | 4,tm,M=>⟨Nat,fun y=>(Zb2 (Zcx tm [(4, .any),(5, .any),(13, .c (.int .i64 ((y:Nat):Int)))]) 14 12,M),fun y=>(y≤List.length xs∧∀ j,j < y→ZaM xs j=ZaM ys j),fun y=>(List.length xs - y)⟩
  | _,_,_=>⟨Unit,fun _=>([],[]),fun _=>False,fun _=>0⟩
theorem ZeH (xs:List ZbB) (ys:List ZbB):Zai Tryz.prog 185 [.c (.hs .no Zal xs), .c (.hs .no Zal ys)] (.c (.bool (ZaS xs ys))) []:=by
  refine bc0 [] [] [] [] (ZeG xs ys) Tryz.func185 (fun hwf=>?_)
  refine Eq.mpr (β:=(T6 (bif (neI (List.length xs) (List.length ys)) then (True∧(rB false (ZaS xs ys))) else (T3 ((∃ q:Nat,(q≤List.length xs∧∀ j,j < q→ZaM xs j=ZaM ys j)∧((lxs [hn Zal xs,hn Zal ys, .tp [], .tp []] (True∧True∧lxs [hn Zal xs,ci (List.length xs),hn Zal ys,ci (List.length ys), .c (.bool false),hn Zal xs,ci (List.length xs)] (vI 0 q∧TN 12 True)))∧pt (True)))∧∀ y0:Nat,(y0≤List.length xs∧∀ j,j < y0→ZaM xs j=ZaM ys j)→(True∧(bif (ltI y0 (List.length xs)) then (T2 ((pt (true=true))∧(T2 ((ix 2 y0 (List.length xs))∧(T3 ((ix 2 y0 (List.length ys))∧(True∧(true=true∧(bif (!(Zmw (ZaM xs y0) (ZaM ys y0))) then (True∧(rB false (ZaS xs ys))) else (T2 (∃ y0' : Nat,(y0'≤List.length xs∧∀ j,j < y0'→ZaM xs j=ZaM ys j)∧(List.length xs - y0') < (List.length xs - y0)∧((lxs [hn Zal xs,hn Zal ys, .tp [], .tp []] (True∧True∧lxs [hn Zal xs,ci (List.length xs),hn Zal ys,ci (List.length ys), .c (.bool false),hn Zal xs,ci (List.length xs)] (vI (w64 ((y0:Int) + 1)) y0'∧TN 12 True)))∧pt (True))))))))))))) else (True∧(rB true (ZaS xs ys)))))))))) (by kernel_rfl) ?_
  unfold T2 T3 T6
  simp only [SIA,eq_self]
  have hm:xs.length≤maxLen:=hwf.1.1
  refine ⟨fun hl=>?_,fun hl=>⟨⟨0,⟨Nat.zero_le _,ZaH⟩,rfl⟩,fun k hk=>⟨fun hlt=>⟨by omega,by omega,fun hp=>?_,fun hp=>?_⟩,fun hge=>?_⟩⟩⟩
  · exact (ZbM.2 (fun e=>hl (by rw [e]))).symm
  · exact (ZbM.2 (fun e=>((Zd8.1 hp)) (by rw [e]))).symm
  · exact Zwd
  · obtain rfl:k=xs.length:=by omega
    have hl' : xs.length=ys.length:=by omega
    exact (Zdl.2 (ZbE (t:=Zal) hl' hk.2)).symm
def ZeI:Zat Tryz.prog:=⟨185,[.v (.list Zal), .v (.list Zal)],fun x=>True,fun x=>.c (.bool (ZaS x.1 x.2.1)),fun _=>[],fun x hx=>ZeH x.1 x.2.1,Tryz.call185⟩
def ZeJ (xs:List Zaz) (ys:List Zaz):Nat→List AV→Mem→Za3
  | 4,tm,M=>⟨Nat,fun y=>(Zb2 (Zcx tm [(4, .any),(5, .any),(13, .c (.int .i64 ((y:Nat):Int)))]) 14 12,M),fun y=>(y≤List.length xs∧∀ j,j < y→Zad xs j=Zad ys j),fun y=>(List.length xs - y)⟩
  | _,_,_=>⟨Unit,fun _=>([],[]),fun _=>False,fun _=>0⟩
theorem ZeK (xs:List Zaz) (ys:List Zaz):Zai Tryz.prog 241 [.c (.hs .no Zah xs), .c (.hs .no Zah ys)] (.c (.bool (Zcm xs ys))) []:=by
  refine bc0 [] [] [] [] (ZeJ xs ys) Tryz.func241 (fun hwf=>?_)
  refine Eq.mpr (β:=(T6 (bif (neI (List.length xs) (List.length ys)) then (True∧(rB false (Zcm xs ys))) else (T3 ((∃ q:Nat,(q≤List.length xs∧∀ j,j < q→Zad xs j=Zad ys j)∧((lxs [hn Zah xs,hn Zah ys, .tp [], .tp []] (True∧True∧lxs [hn Zah xs,ci (List.length xs),hn Zah ys,ci (List.length ys), .c (.bool false),hn Zah xs,ci (List.length xs)] (vI 0 q∧TN 12 True)))∧pt (True)))∧∀ y0:Nat,(y0≤List.length xs∧∀ j,j < y0→Zad xs j=Zad ys j)→(True∧(bif (ltI y0 (List.length xs)) then (T2 ((pt (true=true))∧(T2 ((ix 4 y0 (List.length xs))∧(T3 ((ix 4 y0 (List.length ys))∧(True∧(true=true∧(bif (!(ZbI (Zad xs y0) (Zad ys y0))) then (True∧(rB false (Zcm xs ys))) else (T2 (∃ y0' : Nat,(y0'≤List.length xs∧∀ j,j < y0'→Zad xs j=Zad ys j)∧(List.length xs - y0') < (List.length xs - y0)∧((lxs [hn Zah xs,hn Zah ys, .tp [], .tp []] (True∧True∧lxs [hn Zah xs,ci (List.length xs),hn Zah ys,ci (List.length ys), .c (.bool false),hn Zah xs,ci (List.length xs)] (vI (w64 ((y0:Int) + 1)) y0'∧TN 12 True)))∧pt (True))))))))))))) else (True∧(rB true (Zcm xs ys)))))))))) (by kernel_rfl) ?_
  unfold T2 T3 T6
  simp only [SIA,eq_self]
  have hm:xs.length≤maxLen:=hwf.1.1
  refine ⟨fun hl=>?_,fun hl=>⟨⟨0,⟨Nat.zero_le _,ZaH⟩,rfl⟩,fun k hk=>⟨fun hlt=>⟨by omega,by omega,fun hp=>?_,fun hp=>?_⟩,fun hge=>?_⟩⟩⟩
  · exact (Zc4.2 (fun e=>hl (by rw [e]))).symm
  · exact (Zc4.2 (fun e=>((Zeb.1 hp)) (by rw [e]))).symm
  · exact Zwc
  · obtain rfl:k=xs.length:=by omega
    have hl' : xs.length=ys.length:=by omega
    exact (Zea.2 (ZbE (t:=Zah) hl' hk.2)).symm
def ZeL:Zat Tryz.prog:=⟨241,[.v (.list Zah), .v (.list Zah)],fun x=>True,fun x=>.c (.bool (Zcm x.1 x.2.1)),fun _=>[],fun x hx=>ZeK x.1 x.2.1,Tryz.call241⟩
def ZfI (xs:List Zc7) (ys:List Zc7):Nat→List AV→Mem→Za3
  | 4,tm,M=>⟨Nat,fun y=>(Zb2 (Zcx tm [(4, .any),(5, .any),(13, .c (.int .i64 ((y:Nat):Int)))]) 14 12,M),fun y=>(y≤List.length xs∧∀ j,j < y→Zay xs j=Zay ys j),fun y=>(List.length xs - y)⟩
  | _,_,_=>⟨Unit,fun _=>([],[]),fun _=>False,fun _=>0⟩
theorem ZfJ (xs:List Zc7) (ys:List Zc7):Zai Tryz.prog 237 [.c (.hs .no ZaF xs), .c (.hs .no ZaF ys)] (.c (.bool (ZcX xs ys))) []:=by
  refine bc0 [] [] [] [] (ZfI xs ys) Tryz.func237 (fun hwf=>?_)
  refine Eq.mpr (β:=(T6 (bif (neI (List.length xs) (List.length ys)) then (True∧(rB false (ZcX xs ys))) else (T3 ((∃ q:Nat,(q≤List.length xs∧∀ j,j < q→Zay xs j=Zay ys j)∧((lxs [hn ZaF xs,hn ZaF ys, .tp [], .tp []] (True∧True∧lxs [hn ZaF xs,ci (List.length xs),hn ZaF ys,ci (List.length ys), .c (.bool false),hn ZaF xs,ci (List.length xs)] (vI 0 q∧TN 12 True)))∧pt (True)))∧∀ y0:Nat,(y0≤List.length xs∧∀ j,j < y0→Zay xs j=Zay ys j)→(True∧(bif (ltI y0 (List.length xs)) then (T2 ((pt (true=true))∧(T2 ((ix 3 y0 (List.length xs))∧(T3 ((ix 3 y0 (List.length ys))∧(True∧(true=true∧(bif (!(Zr3 (Zay xs y0) (Zay ys y0))) then (True∧(rB false (ZcX xs ys))) else (T2 (∃ y0' : Nat,(y0'≤List.length xs∧∀ j,j < y0'→Zay xs j=Zay ys j)∧(List.length xs - y0') < (List.length xs - y0)∧((lxs [hn ZaF xs,hn ZaF ys, .tp [], .tp []] (True∧True∧lxs [hn ZaF xs,ci (List.length xs),hn ZaF ys,ci (List.length ys), .c (.bool false),hn ZaF xs,ci (List.length xs)] (vI (w64 ((y0:Int) + 1)) y0'∧TN 12 True)))∧pt (True))))))))))))) else (True∧(rB true (ZcX xs ys)))))))))) (by kernel_rfl) ?_
  unfold T2 T3 T6
  simp only [SIA,eq_self]
  have hm:xs.length≤maxLen:=hwf.1.1
  refine ⟨fun hl=>?_,fun hl=>⟨⟨0,⟨Nat.zero_le _,ZaH⟩,rfl⟩,fun k hk=>⟨fun hlt=>⟨by omega,by omega,fun hp=>?_,fun hp=>?_⟩,fun hge=>?_⟩⟩⟩
  · exact (Zdm.2 (fun e=>hl (by rw [e]))).symm
  · exact (Zdm.2 (fun e=>((ZeU.1 hp)) (by rw [e]))).symm
  · exact Zwe
  · obtain rfl:k=xs.length:=by omega
    have hl' : xs.length=ys.length:=by omega
    exact (ZeT.2 (ZbE (t:=ZaF) hl' hk.2)).symm
def ZfK:Zat Tryz.prog:=⟨237,[.v (.list ZaF), .v (.list ZaF)],fun x=>True,fun x=>.c (.bool (ZcX x.1 x.2.1)),fun _=>[],fun x hx=>ZfJ x.1 x.2.1,Tryz.call237⟩
def ZeM (xs:List ByteArray) (ys:List ByteArray):Nat→List AV→Mem→Za3
  | 4,tm,M=>⟨Nat,fun y=>(Zb2 (Zcx tm [(4, .any),(5, .any),(13, .c (.int .i64 ((y:Nat):Int)))]) 14 12,M),fun y=>(y≤List.length xs∧∀ j,j < y→Zas xs j=Zas ys j),fun y=>(List.length xs - y)⟩
  | _,_,_=>⟨Unit,fun _=>([],[]),fun _=>False,fun _=>0⟩
theorem ZeN (xs:List ByteArray) (ys:List ByteArray):Zai Tryz.prog 240 [.c (.hs .no ZaL xs), .c (.hs .no ZaL ys)] (.c (.bool (Za8 xs ys))) []:=by
  refine bc0 [] [] [] [] (ZeM xs ys) Tryz.func240 (fun hwf=>?_)
  refine Eq.mpr (β:=(T6 (bif (neI (List.length xs) (List.length ys)) then (True∧(rB false (Za8 xs ys))) else (T3 ((∃ q:Nat,(q≤List.length xs∧∀ j,j < q→Zas xs j=Zas ys j)∧((lxs [hn ZaL xs,hn ZaL ys, .tp [], .tp []] (True∧True∧lxs [hn ZaL xs,ci (List.length xs),hn ZaL ys,ci (List.length ys), .c (.bool false),hn ZaL xs,ci (List.length xs)] (vI 0 q∧TN 12 True)))∧pt (True)))∧∀ y0:Nat,(y0≤List.length xs∧∀ j,j < y0→Zas xs j=Zas ys j)→(True∧(bif (ltI y0 (List.length xs)) then (T2 ((pt (true=true))∧(T2 ((ix 1 y0 (List.length xs))∧(T3 ((ix 1 y0 (List.length ys))∧(T2 (bif (!eqS (Zas xs y0) (Zas ys y0)) then (True∧(rB false (Za8 xs ys))) else (T2 (∃ y0' : Nat,(y0'≤List.length xs∧∀ j,j < y0'→Zas xs j=Zas ys j)∧(List.length xs - y0') < (List.length xs - y0)∧((lxs [hn ZaL xs,hn ZaL ys, .tp [], .tp []] (True∧True∧lxs [hn ZaL xs,ci (List.length xs),hn ZaL ys,ci (List.length ys), .c (.bool false),hn ZaL xs,ci (List.length xs)] (vI (w64 ((y0:Int) + 1)) y0'∧TN 12 True)))∧pt (True)))))))))))) else (True∧(rB true (Za8 xs ys)))))))))) (by kernel_rfl) ?_
  unfold T2 T3 T6
  simp only [SIA,eq_self]
  have hm:xs.length≤maxLen:=hwf.1.1
  refine ⟨fun hl=>?_,fun hl=>⟨⟨0,⟨Nat.zero_le _,ZaH⟩,rfl⟩,fun k hk=>⟨fun hlt=>⟨by omega,by omega,fun hp=>?_,fun hp=>?_⟩,fun hge=>?_⟩⟩⟩
  · exact (ZbG.2 (fun e=>hl (by rw [e]))).symm
  · exact (ZbG.2 (fun e=>(hp) (by rw [e]))).symm
  · exact Zcz
  · obtain rfl:k=xs.length:=by omega
    have hl' : xs.length=ys.length:=by omega
    exact (ZcP.2 (ZbE (t:=ZaL) hl' hk.2)).symm
def ZeO:Zat Tryz.prog:=⟨240,[.v (.list ZaL), .v (.list ZaL)],fun x=>True,fun x=>.c (.bool (Za8 x.1 x.2.1)),fun _=>[],fun x hx=>ZeN x.1 x.2.1,Tryz.call240⟩
def Zca (p:ZaK→ZaK→Bool) (xs ys:List ZaK):Nat→List AV→Mem→Za3
  | 4,tm,M=>⟨Nat,fun y=>(Zb2 (Zb2 (Zcx tm [(17, .c (.int .i64 ((y:Nat):Int)))]) 6 4) 18 14,M),fun y=>(y≤List.length xs∧∀ j,j < y→p (Zav xs j) (Zav ys j)=true),fun y=>(List.length xs - y)⟩
  | _,_,_=>⟨Unit,fun _=>([],[]),fun _=>False,fun _=>0⟩
theorem Zcb (p:ZaK→ZaK→Bool) (xs ys:List ZaK) (u:Value) (X:List Nat) (W:World) (v:Value) (v2:Value) (hsz:∀ b ∈ X,b < W.heap.size) (hgl:Zjd W []) (hv:Zbm X W [] [] (.hs .no Zak xs) v) (hv2:Zbm X W [] [] (.hs .no Zak ys) v2) (hc:Zr7 X W Tryz.prog u true Zak p) :
    Calls Tryz.prog 238 #[v,v2,u] W (fun e W'=>∃ v E',e=.returned v∧Zbe W [] W' E'∧RepM X W' E' []∧Zcu X W' E' [] (.c (.bool (ZiV p xs ys))) v):=by
  obtain ⟨g,caps,rfl,ent,hc⟩:=hc
  refine Zdk (T:=⟨[],[],[],[],some ⟨_,g,caps,rfl,[.s Zak, .s Zak],fun x=>.c (.bool (p x.1 x.2.1)),ent⟩,fun _=>[],0,[],[]⟩) (L:=(Zca p xs ys)) (args:=[.c (.hs .no Zak xs), .c (.hs .no Zak ys), .c (.raw ((Value.func (.func g) #[] caps.toArray)))]) Tryz.func238 ⟨rfl,rfl⟩ (fun c hc'=>?_) hsz hgl ⟨v,_,rfl,hv,v2,_,rfl,hv2,_,[],rfl,⟨rfl,rfl⟩,rfl⟩ (fun hwf=>?_)
  · exact Zvs
  refine Eq.mpr (β:=(T6 (bif (neI (List.length xs) (List.length ys)) then (True∧(pt (cB false (ZiV p xs ys)))) else (T3 ((∃ q:Nat,(q≤List.length xs∧∀ j,j < q→p (Zav xs j) (Zav ys j)=true)∧((lxs [hn Zak xs,hn Zak ys, .c (.raw ((Value.func (.func g) #[] caps.toArray)))] (tpn 3 (TN 4 (lxs [hn Zak xs,ci (List.length xs),hn Zak ys,ci (List.length ys), .c (.bool false),hn Zak xs,ci (List.length xs)] (vI 0 q∧TN 14 True)))))∧pt (True)))∧∀ y0:Nat,(y0≤List.length xs∧∀ j,j < y0→p (Zav xs j) (Zav ys j)=true)→(True∧(bif (ltI y0 (List.length xs)) then (True∧((ix 3 y0 (List.length xs))∧(T6 ((ix 3 y0 (List.length ys))∧(T6 ((pt ((Value.func (.func g) #[] caps.toArray)=(Value.func (.func g) #[] caps.toArray)))∧(True∧(bif (!(p (Zav xs y0) (Zav ys y0))) then (True∧(pt (cB false (ZiV p xs ys)))) else (T2 (∃ y0' : Nat,(y0'≤List.length xs∧∀ j,j < y0'→p (Zav xs j) (Zav ys j)=true)∧(List.length xs - y0') < (List.length xs - y0)∧((lxs [hn Zak xs,hn Zak ys, .c (.raw ((Value.func (.func g) #[] caps.toArray)))] (tpn 3 (TN 4 (lxs [hn Zak xs,ci (List.length xs),hn Zak ys,ci (List.length ys), .c (.bool false),hn Zak xs,ci (List.length xs)] (vI (w64 ((y0:Int) + 1)) y0'∧TN 14 True)))))∧pt (True)))))))))))) else (True∧(pt (cB true (ZiV p xs ys))))))))))) (by kernel_rfl) ?_
  simp only [SIA,eq_self]
  have hm:xs.length≤maxLen:=hwf.1.1
  refine ⟨fun hl=>?_,fun hl=>⟨⟨0,⟨Nat.zero_le _,ZaH⟩,rfl⟩,fun k hk=>⟨fun hlt=>⟨by omega,by omega,fun hp=>?_,fun hp=>?_⟩,fun hge=>?_⟩⟩⟩
  · exact (Zst (fun e=>hl (by rw [e]))).symm
  · have hk1:k < xs.length:=by omega
    have hk2:k < ys.length:=by omega
    exact (ZnT (t:=Zak) hk1 hk2 hp).symm
  · exact Zcz
  · obtain rfl:k=xs.length:=by omega
    have hl' : xs.length=ys.length:=by omega
    exact (ZAl (t:=Zak) hl' hk.2).symm
def Zcc:Zif Tryz.prog:=⟨238,Zak,true,fun p xs ys=>.bool (ZiV p xs ys),Zcb,Tryz.call238⟩
def ZcJ (p:Zaw→Zaw→Bool) (xs ys:List Zaw):Nat→List AV→Mem→Za3
  | 4,tm,M=>⟨Nat,fun y=>(Zb2 (Zb2 (Zcx tm [(17, .c (.int .i64 ((y:Nat):Int)))]) 6 4) 18 14,M),fun y=>(y≤List.length xs∧∀ j,j < y→p (Zaa xs j) (Zaa ys j)=true),fun y=>(List.length xs - y)⟩
  | _,_,_=>⟨Unit,fun _=>([],[]),fun _=>False,fun _=>0⟩
theorem ZcK (p:Zaw→Zaw→Bool) (xs ys:List Zaw) (u:Value) (X:List Nat) (W:World) (v:Value) (v2:Value) (hsz:∀ b ∈ X,b < W.heap.size) (hgl:Zjd W []) (hv:Zbm X W [] [] (.hs .no Zaf xs) v) (hv2:Zbm X W [] [] (.hs .no Zaf ys) v2) (hc:Zr7 X W Tryz.prog u true Zaf p) :
    Calls Tryz.prog 169 #[v,v2,u] W (fun e W'=>∃ v E',e=.returned v∧Zbe W [] W' E'∧RepM X W' E' []∧Zcu X W' E' [] (.c (.bool (ZiV p xs ys))) v):=by
  obtain ⟨g,caps,rfl,ent,hc⟩:=hc
  refine Zdk (T:=⟨[],[],[],[],some ⟨_,g,caps,rfl,[.s Zaf, .s Zaf],fun x=>.c (.bool (p x.1 x.2.1)),ent⟩,fun _=>[],0,[],[]⟩) (L:=(ZcJ p xs ys)) (args:=[.c (.hs .no Zaf xs), .c (.hs .no Zaf ys), .c (.raw ((Value.func (.func g) #[] caps.toArray)))]) Tryz.func169 ⟨rfl,rfl⟩ (fun c hc'=>?_) hsz hgl ⟨v,_,rfl,hv,v2,_,rfl,hv2,_,[],rfl,⟨rfl,rfl⟩,rfl⟩ (fun hwf=>?_)
  · exact Zvs
  refine Eq.mpr (β:=(T6 (bif (neI (List.length xs) (List.length ys)) then (True∧(pt (cB false (ZiV p xs ys)))) else (T3 ((∃ q:Nat,(q≤List.length xs∧∀ j,j < q→p (Zaa xs j) (Zaa ys j)=true)∧((lxs [hn Zaf xs,hn Zaf ys, .c (.raw ((Value.func (.func g) #[] caps.toArray)))] (tpn 3 (TN 4 (lxs [hn Zaf xs,ci (List.length xs),hn Zaf ys,ci (List.length ys), .c (.bool false),hn Zaf xs,ci (List.length xs)] (vI 0 q∧TN 14 True)))))∧pt (True)))∧∀ y0:Nat,(y0≤List.length xs∧∀ j,j < y0→p (Zaa xs j) (Zaa ys j)=true)→(True∧(bif (ltI y0 (List.length xs)) then (True∧((ix 4 y0 (List.length xs))∧(T6 ((ix 4 y0 (List.length ys))∧(T6 ((pt ((Value.func (.func g) #[] caps.toArray)=(Value.func (.func g) #[] caps.toArray)))∧(True∧(bif (!(p (Zaa xs y0) (Zaa ys y0))) then (True∧(pt (cB false (ZiV p xs ys)))) else (T2 (∃ y0' : Nat,(y0'≤List.length xs∧∀ j,j < y0'→p (Zaa xs j) (Zaa ys j)=true)∧(List.length xs - y0') < (List.length xs - y0)∧((lxs [hn Zaf xs,hn Zaf ys, .c (.raw ((Value.func (.func g) #[] caps.toArray)))] (tpn 3 (TN 4 (lxs [hn Zaf xs,ci (List.length xs),hn Zaf ys,ci (List.length ys), .c (.bool false),hn Zaf xs,ci (List.length xs)] (vI (w64 ((y0:Int) + 1)) y0'∧TN 14 True)))))∧pt (True)))))))))))) else (True∧(pt (cB true (ZiV p xs ys))))))))))) (by kernel_rfl) ?_
  simp only [SIA,eq_self]
  have hm:xs.length≤maxLen:=hwf.1.1
  refine ⟨fun hl=>?_,fun hl=>⟨⟨0,⟨Nat.zero_le _,ZaH⟩,rfl⟩,fun k hk=>⟨fun hlt=>⟨by omega,by omega,fun hp=>?_,fun hp=>?_⟩,fun hge=>?_⟩⟩⟩
  · exact (Zst (fun e=>hl (by rw [e]))).symm
  · have hk1:k < xs.length:=by omega
    have hk2:k < ys.length:=by omega
    exact (ZnT (t:=Zaf) hk1 hk2 hp).symm
  · exact Zcz
  · obtain rfl:k=xs.length:=by omega
    have hl' : xs.length=ys.length:=by omega
    exact (ZAl (t:=Zaf) hl' hk.2).symm
def ZcL:Zif Tryz.prog:=⟨169,Zaf,true,fun p xs ys=>.bool (ZiV p xs ys),ZcK,Tryz.call169⟩
end Go.Proofs.YtkompmgleojmlaaGreat
