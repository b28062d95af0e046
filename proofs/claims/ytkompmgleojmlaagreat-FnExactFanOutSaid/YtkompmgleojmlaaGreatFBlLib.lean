import Derived.Test.YtkompmgleojmlaaGreatFBmTy
set_option linter.unusedSimpArgs false
set_option linter.unusedVariables false
set_option maxRecDepth 100000
set_option maxHeartbeats 4000000
namespace Go.Proofs.YtkompmgleojmlaaGreat
open Go.ChangeShapes Go.WideShapes Go.ChangeAt Go.RowKit Go.Joins Go.Deep
open GoRep (rep bulk)
def ZdW (p:Za3→Bool) (xs:List Za3):Nat→List AV→Mem→Zbn
  | 2,tm,M=>⟨Nat,fun y=>(ZcN (ZcV tm [(4, .any),(5, .any),(8, .c (.int .i64 ((y:Nat):Int)))]) 9 10,M),fun y=>(y≤List.length xs∧∀ j,j < y→p (Zav xs j)=false),fun y=>(List.length xs - y)⟩
  | _,_,_=>⟨Unit,fun _=>([],[]),fun _=>False,fun _=>0⟩
theorem ZdX (p:Za3→Bool) (xs:List Za3) (u:Value) (X:List Nat) (W:World) (v:Value) (hsz:∀ b ∈ X,b < W.heap.size) (hgl:Zlf W []) (hv:ZbL X W [] [] (.hs .no Zar xs) v) (hc:Zlj X W Tryz.prog u true Zar p) :
    Calls Tryz.prog 242 #[v,u] W (fun e W'=>∃ v E',e=.returned v∧Zbz W [] W' E'∧RepM X W' E' []∧ZcR X W' E' [] (.c (.int .i64 (ZcO p xs))) v):=by
  obtain ⟨g,caps,rfl,ent,hc⟩:=hc
  refine Zf1 (T:=⟨[],[],[],[],some ⟨_,g,caps,rfl,[.s Zar],fun x=>.c (.bool (p x.1)),ent⟩,fun _=>[],0,[],[]⟩) (L:=(ZdW p xs)) (args:=[.c (.hs .no Zar xs), .c (.raw ((Value.func (.func g) #[] caps.toArray)))]) Tryz.func242 ⟨rfl,rfl⟩ (fun c hc'=>?_) hsz hgl ⟨v,_,rfl,hv,_,[],rfl,⟨rfl,rfl⟩,rfl⟩ (fun hwf=>?_)
  · exact Zgp
  refine Eq.mpr (β:=(T4 ((∃ q:Nat,(q≤List.length xs∧∀ j,j < q→p (Zav xs j)=false)∧((lxs [hn Zar xs, .c (.raw ((Value.func (.func g) #[] caps.toArray))), .tp [], .tp []] (True∧True∧lxs [hn Zar xs,ci (List.length xs)] (vI 0 q∧TN 10 True)))∧pt (True)))∧∀ y0:Nat,(y0≤List.length xs∧∀ j,j < y0→p (Zav xs j)=false)→(True∧(bif (ltI y0 (List.length xs)) then (T5 ((ix 3 y0 (List.length xs))∧(True∧((pt ((Value.func (.func g) #[] caps.toArray)=(Value.func (.func g) #[] caps.toArray)))∧(bif (p (Zav xs y0)) then (T2 (pt (cI y0 (ZcO p xs)))) else (T2 (∃ y0' : Nat,(y0'≤List.length xs∧∀ j,j < y0'→p (Zav xs j)=false)∧(List.length xs - y0') < (List.length xs - y0)∧((lxs [hn Zar xs, .c (.raw ((Value.func (.func g) #[] caps.toArray))), .tp [], .tp []] (True∧True∧lxs [hn Zar xs,ci (List.length xs)] (vI (w64 ((y0:Int) + 1)) y0'∧TN 10 True)))∧pt (True))))))))) else (True∧(pt (cI (-1) (ZcO p xs))))))))) (by kernel_rfl) ?_
  simp only [SIA,eq_self]
  have hm:xs.length≤maxLen:=hwf.1.1
  refine ⟨⟨0,⟨Nat.zero_le _,Zbl⟩,rfl⟩,fun k hk=>⟨fun hlt=>⟨by omega,fun hp=>?_,fun hp=>?_⟩,fun hge=>?_⟩⟩
  · have hk' : k < xs.length:=by omega
    exact (Zd4 (t:=Zar) hk' hk.2 hp).symm
  · exact Zdu
  · obtain rfl:k=xs.length:=by omega
    exact (ZbW (t:=Zar) hk.2).symm
def ZdY:Zhu Tryz.prog:=⟨242,Zar,true,fun p xs=>.int .i64 (ZcO p xs),ZdX,Tryz.call242⟩
theorem Zdx (p:Za3→Bool) (xs:List Za3) (u:Value) (X:List Nat) (W:World) (v:Value) (hsz:∀ b ∈ X,b < W.heap.size) (hgl:Zlf W []) (hv:ZbL X W [] [] (.hs .no Zar xs) v) (hc:Zlj X W Tryz.prog u true Zar p) :
    Calls Tryz.prog 174 #[v,u] W (fun e W'=>∃ v E',e=.returned v∧Zbz W [] W' E'∧RepM X W' E' []∧ZcR X W' E' [] (.c (.bool (List.any xs p))) v):=by
  obtain ⟨g,caps,rfl,ent,hc⟩:=hc
  refine Zf1 (T:=⟨[],[ZdY],[],[],some ⟨_,g,caps,rfl,[.s Zar],fun x=>.c (.bool (p x.1)),ent⟩,fun _=>[],0,[],[]⟩) (L:=L0) (args:=[.c (.hs .no Zar xs), .c (.raw ((Value.func (.func g) #[] caps.toArray)))]) Tryz.func174 ⟨rfl,rfl⟩ (fun c hc'=>?_) hsz hgl ⟨v,_,rfl,hv,_,[],rfl,⟨rfl,rfl⟩,rfl⟩ (fun hwf=>?_)
  · exact Zgp
  refine Eq.mpr (β:=(T3 (((Value.func (.func g) #[] caps.toArray)=(Value.func (.func g) #[] caps.toArray)∧(∀ z0:Za3,True)∧∀ (_:Za3→Bool) (_:List Za3),true=true)∧(T2 (pt (cB (geI (ZcO (fun z0:Za3=>(p z0)) xs) 0) (List.any xs p))))))) (by kernel_rfl) ?_
  exact ZwE
def Zdy:Zhu Tryz.prog:=⟨174,Zar,true,fun p xs=>.bool (List.any xs p),Zdx,Tryz.call174⟩
def ZeJ (p:ZaM→Bool) (xs:List ZaM):Nat→List AV→Mem→Zbn
  | 2,tm,M=>⟨Nat,fun y=>(ZcN (ZcV tm [(4, .any),(5, .any),(8, .c (.int .i64 ((y:Nat):Int)))]) 9 10,M),fun y=>(y≤List.length xs∧∀ j,j < y→p (Zab xs j)=false),fun y=>(List.length xs - y)⟩
  | _,_,_=>⟨Unit,fun _=>([],[]),fun _=>False,fun _=>0⟩
theorem ZeK (p:ZaM→Bool) (xs:List ZaM) (u:Value) (X:List Nat) (W:World) (v:Value) (hsz:∀ b ∈ X,b < W.heap.size) (hgl:Zlf W []) (hv:ZbL X W [] [] (.hs .no Zak xs) v) (hc:Zlj X W Tryz.prog u true Zak p) :
    Calls Tryz.prog 183 #[v,u] W (fun e W'=>∃ v E',e=.returned v∧Zbz W [] W' E'∧RepM X W' E' []∧ZcR X W' E' [] (.c (.int .i64 (ZcO p xs))) v):=by
  obtain ⟨g,caps,rfl,ent,hc⟩:=hc
  refine Zf1 (T:=⟨[],[],[],[],some ⟨_,g,caps,rfl,[.s Zak],fun x=>.c (.bool (p x.1)),ent⟩,fun _=>[],0,[],[]⟩) (L:=(ZeJ p xs)) (args:=[.c (.hs .no Zak xs), .c (.raw ((Value.func (.func g) #[] caps.toArray)))]) Tryz.func183 ⟨rfl,rfl⟩ (fun c hc'=>?_) hsz hgl ⟨v,_,rfl,hv,_,[],rfl,⟨rfl,rfl⟩,rfl⟩ (fun hwf=>?_)
  · exact Zgp
  refine Eq.mpr (β:=(T4 ((∃ q:Nat,(q≤List.length xs∧∀ j,j < q→p (Zab xs j)=false)∧((lxs [hn Zak xs, .c (.raw ((Value.func (.func g) #[] caps.toArray))), .tp [], .tp []] (True∧True∧lxs [hn Zak xs,ci (List.length xs)] (vI 0 q∧TN 10 True)))∧pt (True)))∧∀ y0:Nat,(y0≤List.length xs∧∀ j,j < y0→p (Zab xs j)=false)→(True∧(bif (ltI y0 (List.length xs)) then (T5 ((ix 4 y0 (List.length xs))∧(True∧((pt ((Value.func (.func g) #[] caps.toArray)=(Value.func (.func g) #[] caps.toArray)))∧(bif (p (Zab xs y0)) then (T2 (pt (cI y0 (ZcO p xs)))) else (T2 (∃ y0' : Nat,(y0'≤List.length xs∧∀ j,j < y0'→p (Zab xs j)=false)∧(List.length xs - y0') < (List.length xs - y0)∧((lxs [hn Zak xs, .c (.raw ((Value.func (.func g) #[] caps.toArray))), .tp [], .tp []] (True∧True∧lxs [hn Zak xs,ci (List.length xs)] (vI (w64 ((y0:Int) + 1)) y0'∧TN 10 True)))∧pt (True))))))))) else (True∧(pt (cI (-1) (ZcO p xs))))))))) (by kernel_rfl) ?_
  simp only [SIA,eq_self]
  have hm:xs.length≤maxLen:=hwf.1.1
  refine ⟨⟨0,⟨Nat.zero_le _,Zbl⟩,rfl⟩,fun k hk=>⟨fun hlt=>⟨by omega,fun hp=>?_,fun hp=>?_⟩,fun hge=>?_⟩⟩
  · have hk' : k < xs.length:=by omega
    exact (Zd4 (t:=Zak) hk' hk.2 hp).symm
  · exact Zdu
  · obtain rfl:k=xs.length:=by omega
    exact (ZbW (t:=Zak) hk.2).symm
def ZcY:Zhu Tryz.prog:=⟨183,Zak,true,fun p xs=>.int .i64 (ZcO p xs),ZeK,Tryz.call183⟩
def Zej (p:Zay→Bool) (xs:List Zay):Nat→List AV→Mem→Zbn
  | 2,tm,M=>⟨Nat,fun y=>(ZcN (ZcV tm [(4, .any),(5, .any),(8, .c (.int .i64 ((y:Nat):Int)))]) 9 10,M),fun y=>(y≤List.length xs∧∀ j,j < y→p (Zaf xs j)=false),fun y=>(List.length xs - y)⟩
  | _,_,_=>⟨Unit,fun _=>([],[]),fun _=>False,fun _=>0⟩
theorem Zek (p:Zay→Bool) (xs:List Zay) (u:Value) (X:List Nat) (W:World) (v:Value) (hsz:∀ b ∈ X,b < W.heap.size) (hgl:Zlf W []) (hv:ZbL X W [] [] (.hs .no Zai xs) v) (hc:Zlj X W Tryz.prog u true Zai p) :
    Calls Tryz.prog 246 #[v,u] W (fun e W'=>∃ v E',e=.returned v∧Zbz W [] W' E'∧RepM X W' E' []∧ZcR X W' E' [] (.c (.int .i64 (ZcO p xs))) v):=by
  obtain ⟨g,caps,rfl,ent,hc⟩:=hc
  refine Zf1 (T:=⟨[],[],[],[],some ⟨_,g,caps,rfl,[.s Zai],fun x=>.c (.bool (p x.1)),ent⟩,fun _=>[],0,[],[]⟩) (L:=(Zej p xs)) (args:=[.c (.hs .no Zai xs), .c (.raw ((Value.func (.func g) #[] caps.toArray)))]) Tryz.func246 ⟨rfl,rfl⟩ (fun c hc'=>?_) hsz hgl ⟨v,_,rfl,hv,_,[],rfl,⟨rfl,rfl⟩,rfl⟩ (fun hwf=>?_)
  · exact Zgp
  refine Eq.mpr (β:=(T4 ((∃ q:Nat,(q≤List.length xs∧∀ j,j < q→p (Zaf xs j)=false)∧((lxs [hn Zai xs, .c (.raw ((Value.func (.func g) #[] caps.toArray))), .tp [], .tp []] (True∧True∧lxs [hn Zai xs,ci (List.length xs)] (vI 0 q∧TN 10 True)))∧pt (True)))∧∀ y0:Nat,(y0≤List.length xs∧∀ j,j < y0→p (Zaf xs j)=false)→(True∧(bif (ltI y0 (List.length xs)) then (T5 ((ix 4 y0 (List.length xs))∧(True∧((pt ((Value.func (.func g) #[] caps.toArray)=(Value.func (.func g) #[] caps.toArray)))∧(bif (p (Zaf xs y0)) then (T2 (pt (cI y0 (ZcO p xs)))) else (T2 (∃ y0' : Nat,(y0'≤List.length xs∧∀ j,j < y0'→p (Zaf xs j)=false)∧(List.length xs - y0') < (List.length xs - y0)∧((lxs [hn Zai xs, .c (.raw ((Value.func (.func g) #[] caps.toArray))), .tp [], .tp []] (True∧True∧lxs [hn Zai xs,ci (List.length xs)] (vI (w64 ((y0:Int) + 1)) y0'∧TN 10 True)))∧pt (True))))))))) else (True∧(pt (cI (-1) (ZcO p xs))))))))) (by kernel_rfl) ?_
  simp only [SIA,eq_self]
  have hm:xs.length≤maxLen:=hwf.1.1
  refine ⟨⟨0,⟨Nat.zero_le _,Zbl⟩,rfl⟩,fun k hk=>⟨fun hlt=>⟨by omega,fun hp=>?_,fun hp=>?_⟩,fun hge=>?_⟩⟩
  · have hk' : k < xs.length:=by omega
    exact (Zd4 (t:=Zai) hk' hk.2 hp).symm
  · exact Zdu
  · obtain rfl:k=xs.length:=by omega
    exact (ZbW (t:=Zai) hk.2).symm
def ZcK:Zhu Tryz.prog:=⟨246,Zai,true,fun p xs=>.int .i64 (ZcO p xs),Zek,Tryz.call246⟩
def ZeL (p:ZcU→Bool) (xs:List ZcU):Nat→List AV→Mem→Zbn
  | 2,tm,M=>⟨Nat,fun y=>(ZcN (ZcV tm [(4, .any),(5, .any),(8, .c (.int .i64 ((y:Nat):Int)))]) 9 10,M),fun y=>(y≤List.length xs∧∀ j,j < y→p (ZaL xs j)=false),fun y=>(List.length xs - y)⟩
  | _,_,_=>⟨Unit,fun _=>([],[]),fun _=>False,fun _=>0⟩
theorem ZeM (p:ZcU→Bool) (xs:List ZcU) (u:Value) (X:List Nat) (W:World) (v:Value) (hsz:∀ b ∈ X,b < W.heap.size) (hgl:Zlf W []) (hv:ZbL X W [] [] (.hs .no ZaT xs) v) (hc:Zlj X W Tryz.prog u true ZaT p) :
    Calls Tryz.prog 271 #[v,u] W (fun e W'=>∃ v E',e=.returned v∧Zbz W [] W' E'∧RepM X W' E' []∧ZcR X W' E' [] (.c (.int .i64 (ZcO p xs))) v):=by
  obtain ⟨g,caps,rfl,ent,hc⟩:=hc
  refine Zf1 (T:=⟨[],[],[],[],some ⟨_,g,caps,rfl,[.s ZaT],fun x=>.c (.bool (p x.1)),ent⟩,fun _=>[],0,[],[]⟩) (L:=(ZeL p xs)) (args:=[.c (.hs .no ZaT xs), .c (.raw ((Value.func (.func g) #[] caps.toArray)))]) Tryz.func271 ⟨rfl,rfl⟩ (fun c hc'=>?_) hsz hgl ⟨v,_,rfl,hv,_,[],rfl,⟨rfl,rfl⟩,rfl⟩ (fun hwf=>?_)
  · exact Zgp
  refine Eq.mpr (β:=(T4 ((∃ q:Nat,(q≤List.length xs∧∀ j,j < q→p (ZaL xs j)=false)∧((lxs [hn ZaT xs, .c (.raw ((Value.func (.func g) #[] caps.toArray))), .tp [], .tp []] (True∧True∧lxs [hn ZaT xs,ci (List.length xs)] (vI 0 q∧TN 10 True)))∧pt (True)))∧∀ y0:Nat,(y0≤List.length xs∧∀ j,j < y0→p (ZaL xs j)=false)→(True∧(bif (ltI y0 (List.length xs)) then (T5 ((ix 3 y0 (List.length xs))∧(True∧((pt ((Value.func (.func g) #[] caps.toArray)=(Value.func (.func g) #[] caps.toArray)))∧(bif (p (ZaL xs y0)) then (T2 (pt (cI y0 (ZcO p xs)))) else (T2 (∃ y0' : Nat,(y0'≤List.length xs∧∀ j,j < y0'→p (ZaL xs j)=false)∧(List.length xs - y0') < (List.length xs - y0)∧((lxs [hn ZaT xs, .c (.raw ((Value.func (.func g) #[] caps.toArray))), .tp [], .tp []] (True∧True∧lxs [hn ZaT xs,ci (List.length xs)] (vI (w64 ((y0:Int) + 1)) y0'∧TN 10 True)))∧pt (True))))))))) else (True∧(pt (cI (-1) (ZcO p xs))))))))) (by kernel_rfl) ?_
  simp only [SIA,eq_self]
  have hm:xs.length≤maxLen:=hwf.1.1
  refine ⟨⟨0,⟨Nat.zero_le _,Zbl⟩,rfl⟩,fun k hk=>⟨fun hlt=>⟨by omega,fun hp=>?_,fun hp=>?_⟩,fun hge=>?_⟩⟩
  · have hk' : k < xs.length:=by omega
    exact (Zd4 (t:=ZaT) hk' hk.2 hp).symm
  · exact Zdu
  · obtain rfl:k=xs.length:=by omega
    exact (ZbW (t:=ZaT) hk.2).symm
def ZeN:Zhu Tryz.prog:=⟨271,ZaT,true,fun p xs=>.int .i64 (ZcO p xs),ZeM,Tryz.call271⟩
def Zel (p:ByteArray→Bool) (xs:List ByteArray):Nat→List AV→Mem→Zbn
  | 2,tm,M=>⟨Nat,fun y=>(ZcN (ZcV tm [(4, .any),(5, .any),(8, .c (.int .i64 ((y:Nat):Int)))]) 9 10,M),fun y=>(y≤List.length xs∧∀ j,j < y→p (ZaJ xs j)=false),fun y=>(List.length xs - y)⟩
  | _,_,_=>⟨Unit,fun _=>([],[]),fun _=>False,fun _=>0⟩
theorem Zem (p:ByteArray→Bool) (xs:List ByteArray) (u:Value) (X:List Nat) (W:World) (v:Value) (hsz:∀ b ∈ X,b < W.heap.size) (hgl:Zlf W []) (hv:ZbL X W [] [] (.hs .no ZaK xs) v) (hc:Zlj X W Tryz.prog u false ZaK p) :
    Calls Tryz.prog 305 #[v,u] W (fun e W'=>∃ v E',e=.returned v∧Zbz W [] W' E'∧RepM X W' E' []∧ZcR X W' E' [] (.c (.int .i64 (ZcO p xs))) v):=by
  obtain ⟨g,caps,rfl,ent,hc⟩:=hc
  refine Zf1 (T:=⟨[],[],[],[],some ⟨_,g,caps,rfl,[.v ZaK],fun x=>.c (.bool (p x.1)),ent⟩,fun _=>[],0,[],[]⟩) (L:=(Zel p xs)) (args:=[.c (.hs .no ZaK xs), .c (.raw ((Value.func (.func g) #[] caps.toArray)))]) Tryz.func305 ⟨rfl,rfl⟩ (fun c hc'=>?_) hsz hgl ⟨v,_,rfl,hv,_,[],rfl,⟨rfl,rfl⟩,rfl⟩ (fun hwf=>?_)
  · exact Zgp
  refine Eq.mpr (β:=(T4 ((∃ q:Nat,(q≤List.length xs∧∀ j,j < q→p (ZaJ xs j)=false)∧((lxs [hn ZaK xs, .c (.raw ((Value.func (.func g) #[] caps.toArray))), .tp [], .tp []] (True∧True∧lxs [hn ZaK xs,ci (List.length xs)] (vI 0 q∧TN 10 True)))∧pt (True)))∧∀ y0:Nat,(y0≤List.length xs∧∀ j,j < y0→p (ZaJ xs j)=false)→(True∧(bif (ltI y0 (List.length xs)) then (T5 ((ix 1 y0 (List.length xs))∧(True∧((pt ((Value.func (.func g) #[] caps.toArray)=(Value.func (.func g) #[] caps.toArray)))∧(bif (p (ZaJ xs y0)) then (T2 (pt (cI y0 (ZcO p xs)))) else (T2 (∃ y0' : Nat,(y0'≤List.length xs∧∀ j,j < y0'→p (ZaJ xs j)=false)∧(List.length xs - y0') < (List.length xs - y0)∧((lxs [hn ZaK xs, .c (.raw ((Value.func (.func g) #[] caps.toArray))), .tp [], .tp []] (True∧True∧lxs [hn ZaK xs,ci (List.length xs)] (vI (w64 ((y0:Int) + 1)) y0'∧TN 10 True)))∧pt (True))))))))) else (True∧(pt (cI (-1) (ZcO p xs))))))))) (by kernel_rfl) ?_
  simp only [SIA,eq_self]
  have hm:xs.length≤maxLen:=hwf.1.1
  refine ⟨⟨0,⟨Nat.zero_le _,Zbl⟩,rfl⟩,fun k hk=>⟨fun hlt=>⟨by omega,fun hp=>?_,fun hp=>?_⟩,fun hge=>?_⟩⟩
  · have hk' : k < xs.length:=by omega
    exact (Zd4 (t:=ZaK) hk' hk.2 hp).symm
  · exact Zdu
  · obtain rfl:k=xs.length:=by omega
    exact (ZbW (t:=ZaK) hk.2).symm
def Zen:Zhu Tryz.prog:=⟨305,ZaK,false,fun p xs=>.int .i64 (ZcO p xs),Zem,Tryz.call305⟩
theorem ZdN (p:ByteArray→Bool) (xs:List ByteArray) (u:Value) (X:List Nat) (W:World) (v:Value) (hsz:∀ b ∈ X,b < W.heap.size) (hgl:Zlf W []) (hv:ZbL X W [] [] (.hs .no ZaK xs) v) (hc:Zlj X W Tryz.prog u false ZaK p) :
    Calls Tryz.prog 284 #[v,u] W (fun e W'=>∃ v E',e=.returned v∧Zbz W [] W' E'∧RepM X W' E' []∧ZcR X W' E' [] (.c (.bool (List.any xs p))) v):=by
  obtain ⟨g,caps,rfl,ent,hc⟩:=hc
  refine Zf1 (T:=⟨[],[Zen],[],[],some ⟨_,g,caps,rfl,[.v ZaK],fun x=>.c (.bool (p x.1)),ent⟩,fun _=>[],0,[],[]⟩) (L:=L0) (args:=[.c (.hs .no ZaK xs), .c (.raw ((Value.func (.func g) #[] caps.toArray)))]) Tryz.func284 ⟨rfl,rfl⟩ (fun c hc'=>?_) hsz hgl ⟨v,_,rfl,hv,_,[],rfl,⟨rfl,rfl⟩,rfl⟩ (fun hwf=>?_)
  · exact Zgp
  refine Eq.mpr (β:=(T3 (((Value.func (.func g) #[] caps.toArray)=(Value.func (.func g) #[] caps.toArray)∧(∀ z0:ByteArray,True)∧∀ (_:ByteArray→Bool) (_:List ByteArray),true=true)∧(T2 (pt (cB (geI (ZcO (fun z0:ByteArray=>(p z0)) xs) 0) (List.any xs p))))))) (by kernel_rfl) ?_
  exact ZwE
def ZdO:Zhu Tryz.prog:=⟨284,ZaK,false,fun p xs=>.bool (List.any xs p),ZdN,Tryz.call284⟩
end Go.Proofs.YtkompmgleojmlaaGreat
