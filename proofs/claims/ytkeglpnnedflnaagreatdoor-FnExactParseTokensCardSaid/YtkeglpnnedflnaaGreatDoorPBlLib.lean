import Derived.Test.YtkeglpnnedflnaaGreatDoorPBmTy
set_option linter.unusedSimpArgs false
set_option linter.unusedVariables false
set_option maxRecDepth 100000
set_option maxHeartbeats 4000000
namespace Go.Proofs.YtkeglpnnedflnaaGreatDoor
open Go.ChangeShapes Go.WideShapes Go.ChangeAt Go.RowKit Go.Joins Go.Deep
open GoRep (rep bulk)
def Zdr (p:GScope→Bool) (xs:List GScope):Nat→List AV→Mem→Zbe
 | 2,tm,M=>⟨Nat,fun y=>(Zcp (ZcG tm [(4, .any),(5, .any),(8, .c (.int .i64 ((y:Nat):Int)))]) 9 10,M),fun y=>(y≤List.length xs∧∀ j,j < y→p (Zad xs j)=false),fun y=>(List.length xs - y)⟩
 | _,_,_=>⟨Unit,fun _=>([],[]),fun _=>False,fun _=>0⟩
theorem Zds (p:GScope→Bool) (xs:List GScope) (u:Value) (X:List Nat) (W:World) (v:Value) (hsz:∀ b ∈ X,b < W.heap.size) (hgl:ZiD W []) (hv:Zbo X W [] [] (.hs .no Zae xs) v) (hc:ZnR X W Tryz.prog u true Zae p) :
 Calls Tryz.prog 192 #[v,u] W (fun e W'=>∃ v E',e=.returned v∧Zbb W [] W' E'∧RepM X W' E' []∧Zcd X W' E' [] (.c (.int .i64 (ZaM p xs))) v):=by
 obtain ⟨g,caps,rfl,ent,hc⟩:=hc
 refine Zfd (T:=⟨[],[],[],[],some ⟨_,g,caps,rfl,[.s Zae],fun x=>.c (.bool (p x.1)),ent⟩,fun _=>[],0,[],[]⟩) (L:=(Zdr p xs)) (args:=[.c (.hs .no Zae xs), .c (.raw ((Value.func (.func g) #[] caps.toArray)))]) Tryz.func192 ⟨rfl,rfl⟩ (fun c hc'=>?_) hsz hgl ⟨v,_,rfl,hv,_,[],rfl,⟨rfl,rfl⟩,rfl⟩ (fun hwf=>?_)
 ·exact Zh4
 refine Eq.mpr (β:=T4 ((∃ q:Nat,(q≤xs.length∧∀ j,j < q→p (Zad xs j)=false)∧lxs [hn Zae xs, .c (.raw ((Value.func (.func g) #[] caps.toArray))), .tp [], .tp []] (True∧True∧lxs [hn Zae xs,ci xs.length] (vI 0 q∧TN 10 True))∧pt (True))∧∀ y0:Nat,(y0≤xs.length∧∀ j,j < y0→p (Zad xs j)=false)→True∧bif ltI y0 xs.length then T5 (ix 3 y0 xs.length∧True∧pt ((Value.func (.func g) #[] caps.toArray)=(Value.func (.func g) #[] caps.toArray))∧bif p (Zad xs y0) then T2 (pt (cI y0 (ZaM p xs))) else T2 (∃ y0' : Nat,(y0'≤xs.length∧∀ j,j < y0'→p (Zad xs j)=false)∧(xs.length - y0') < (xs.length - y0)∧lxs [hn Zae xs, .c (.raw ((Value.func (.func g) #[] caps.toArray))), .tp [], .tp []] (True∧True∧lxs [hn Zae xs,ci xs.length] (vI (w64 ((y0:Int) + 1)) y0'∧TN 10 True))∧pt (True))) else True∧pt (cI (-1) (ZaM p xs)))) (by kernel_rfl) ?_
 simp only [SIA,eq_self]
 have hm:xs.length≤maxLen:=hwf.1.1
 refine ⟨⟨0,⟨Nat.zero_le _,Zbp⟩,rfl⟩,fun k hk=>⟨fun hlt=>⟨by omega,fun hp=>?_,fun hp=>?_⟩,fun hge=>?_⟩⟩
 ·have hk' : k < xs.length:=by omega
  exact (Zkn (t:=Zae) hk' hk.2 hp).symm
 ·exact ZeB
 ·obtain rfl:k=xs.length:=by omega
  exact (ZdG (t:=Zae) hk.2).symm
def Zdt:ZhD Tryz.prog:=⟨192,Zae,true,fun p xs=>.int .i64 (ZaM p xs),Zds,Tryz.call192⟩
theorem ZcZ (p:GScope→Bool) (xs:List GScope) (u:Value) (X:List Nat) (W:World) (v:Value) (hsz:∀ b ∈ X,b < W.heap.size) (hgl:ZiD W []) (hv:Zbo X W [] [] (.hs .no Zae xs) v) (hc:ZnR X W Tryz.prog u true Zae p) :
 Calls Tryz.prog 146 #[v,u] W (fun e W'=>∃ v E',e=.returned v∧Zbb W [] W' E'∧RepM X W' E' []∧Zcd X W' E' [] (.c (.bool (List.any xs p))) v):=by
 obtain ⟨g,caps,rfl,ent,hc⟩:=hc
 refine Zfd (T:=⟨[],[Zdt],[],[],some ⟨_,g,caps,rfl,[.s Zae],fun x=>.c (.bool (p x.1)),ent⟩,fun _=>[],0,[],[]⟩) (L:=L0) (args:=[.c (.hs .no Zae xs), .c (.raw ((Value.func (.func g) #[] caps.toArray)))]) Tryz.func146 ⟨rfl,rfl⟩ (fun c hc'=>?_) hsz hgl ⟨v,_,rfl,hv,_,[],rfl,⟨rfl,rfl⟩,rfl⟩ (fun hwf=>?_)
 ·exact Zh4
 refine Eq.mpr (β:=T3 (((Value.func (.func g) #[] caps.toArray)=(Value.func (.func g) #[] caps.toArray)∧(∀ z0:GScope,True)∧∀ (_:GScope→Bool) (_:List GScope),true=true)∧T2 (pt (cB (geI (ZaM (fun z0:GScope=>(p z0)) xs) 0) (List.any xs p))))) (by kernel_rfl) ?_
 exact ZvA
def Zc0:ZhD Tryz.prog:=⟨146,Zae,true,fun p xs=>.bool (List.any xs p),ZcZ,Tryz.call146⟩
def ZdL (p:Zaj→Bool) (xs:List Zaj):Nat→List AV→Mem→Zbe
 | 2,tm,M=>⟨Nat,fun y=>(Zcp (ZcG tm [(4, .any),(5, .any),(8, .c (.int .i64 ((y:Nat):Int)))]) 9 10,M),fun y=>(y≤List.length xs∧∀ j,j < y→p (Zak xs j)=false),fun y=>(List.length xs - y)⟩
 | _,_,_=>⟨Unit,fun _=>([],[]),fun _=>False,fun _=>0⟩
theorem ZdM (p:Zaj→Bool) (xs:List Zaj) (u:Value) (X:List Nat) (W:World) (v:Value) (hsz:∀ b ∈ X,b < W.heap.size) (hgl:ZiD W []) (hv:Zbo X W [] [] (.hs .no Zai xs) v) (hc:ZnR X W Tryz.prog u true Zai p) :
 Calls Tryz.prog 191 #[v,u] W (fun e W'=>∃ v E',e=.returned v∧Zbb W [] W' E'∧RepM X W' E' []∧Zcd X W' E' [] (.c (.int .i64 (ZaM p xs))) v):=by
 obtain ⟨g,caps,rfl,ent,hc⟩:=hc
 refine Zfd (T:=⟨[],[],[],[],some ⟨_,g,caps,rfl,[.s Zai],fun x=>.c (.bool (p x.1)),ent⟩,fun _=>[],0,[],[]⟩) (L:=(ZdL p xs)) (args:=[.c (.hs .no Zai xs), .c (.raw ((Value.func (.func g) #[] caps.toArray)))]) Tryz.func191 ⟨rfl,rfl⟩ (fun c hc'=>?_) hsz hgl ⟨v,_,rfl,hv,_,[],rfl,⟨rfl,rfl⟩,rfl⟩ (fun hwf=>?_)
 ·exact Zh4
 refine Eq.mpr (β:=T4 ((∃ q:Nat,(q≤xs.length∧∀ j,j < q→p (Zak xs j)=false)∧lxs [hn Zai xs, .c (.raw ((Value.func (.func g) #[] caps.toArray))), .tp [], .tp []] (True∧True∧lxs [hn Zai xs,ci xs.length] (vI 0 q∧TN 10 True))∧pt (True))∧∀ y0:Nat,(y0≤xs.length∧∀ j,j < y0→p (Zak xs j)=false)→True∧bif ltI y0 xs.length then T5 (ix 2 y0 xs.length∧True∧pt ((Value.func (.func g) #[] caps.toArray)=(Value.func (.func g) #[] caps.toArray))∧bif p (Zak xs y0) then T2 (pt (cI y0 (ZaM p xs))) else T2 (∃ y0' : Nat,(y0'≤xs.length∧∀ j,j < y0'→p (Zak xs j)=false)∧(xs.length - y0') < (xs.length - y0)∧lxs [hn Zai xs, .c (.raw ((Value.func (.func g) #[] caps.toArray))), .tp [], .tp []] (True∧True∧lxs [hn Zai xs,ci xs.length] (vI (w64 ((y0:Int) + 1)) y0'∧TN 10 True))∧pt (True))) else True∧pt (cI (-1) (ZaM p xs)))) (by kernel_rfl) ?_
 simp only [SIA,eq_self]
 have hm:xs.length≤maxLen:=hwf.1.1
 refine ⟨⟨0,⟨Nat.zero_le _,Zbp⟩,rfl⟩,fun k hk=>⟨fun hlt=>⟨by omega,fun hp=>?_,fun hp=>?_⟩,fun hge=>?_⟩⟩
 ·have hk' : k < xs.length:=by omega
  exact (Zkn (t:=Zai) hk' hk.2 hp).symm
 ·exact ZeB
 ·obtain rfl:k=xs.length:=by omega
  exact (ZdG (t:=Zai) hk.2).symm
def ZdN:ZhD Tryz.prog:=⟨191,Zai,true,fun p xs=>.int .i64 (ZaM p xs),ZdM,Tryz.call191⟩
theorem Zdd (p:Zaj→Bool) (xs:List Zaj) (u:Value) (X:List Nat) (W:World) (v:Value) (hsz:∀ b ∈ X,b < W.heap.size) (hgl:ZiD W []) (hv:Zbo X W [] [] (.hs .no Zai xs) v) (hc:ZnR X W Tryz.prog u true Zai p) :
 Calls Tryz.prog 144 #[v,u] W (fun e W'=>∃ v E',e=.returned v∧Zbb W [] W' E'∧RepM X W' E' []∧Zcd X W' E' [] (.c (.bool (List.any xs p))) v):=by
 obtain ⟨g,caps,rfl,ent,hc⟩:=hc
 refine Zfd (T:=⟨[],[ZdN],[],[],some ⟨_,g,caps,rfl,[.s Zai],fun x=>.c (.bool (p x.1)),ent⟩,fun _=>[],0,[],[]⟩) (L:=L0) (args:=[.c (.hs .no Zai xs), .c (.raw ((Value.func (.func g) #[] caps.toArray)))]) Tryz.func144 ⟨rfl,rfl⟩ (fun c hc'=>?_) hsz hgl ⟨v,_,rfl,hv,_,[],rfl,⟨rfl,rfl⟩,rfl⟩ (fun hwf=>?_)
 ·exact Zh4
 refine Eq.mpr (β:=T3 (((Value.func (.func g) #[] caps.toArray)=(Value.func (.func g) #[] caps.toArray)∧(∀ z0:Zaj,True)∧∀ (_:Zaj→Bool) (_:List Zaj),true=true)∧T2 (pt (cB (geI (ZaM (fun z0:Zaj=>(p z0)) xs) 0) (List.any xs p))))) (by kernel_rfl) ?_
 exact ZvA
def Zde:ZhD Tryz.prog:=⟨144,Zai,true,fun p xs=>.bool (List.any xs p),Zdd,Tryz.call144⟩
def ZdO (p:ByteArray→Bool) (xs:List ByteArray):Nat→List AV→Mem→Zbe
 | 2,tm,M=>⟨Nat,fun y=>(Zcp (ZcG tm [(4, .any),(5, .any),(8, .c (.int .i64 ((y:Nat):Int)))]) 9 10,M),fun y=>(y≤List.length xs∧∀ j,j < y→p (Zaa xs j)=false),fun y=>(List.length xs - y)⟩
 | _,_,_=>⟨Unit,fun _=>([],[]),fun _=>False,fun _=>0⟩
theorem ZdP (p:ByteArray→Bool) (xs:List ByteArray) (u:Value) (X:List Nat) (W:World) (v:Value) (hsz:∀ b ∈ X,b < W.heap.size) (hgl:ZiD W []) (hv:Zbo X W [] [] (.hs .no Zah xs) v) (hc:ZnR X W Tryz.prog u false Zah p) :
 Calls Tryz.prog 40 #[v,u] W (fun e W'=>∃ v E',e=.returned v∧Zbb W [] W' E'∧RepM X W' E' []∧Zcd X W' E' [] (.c (.int .i64 (ZaM p xs))) v):=by
 obtain ⟨g,caps,rfl,ent,hc⟩:=hc
 refine Zfd (T:=⟨[],[],[],[],some ⟨_,g,caps,rfl,[.v Zah],fun x=>.c (.bool (p x.1)),ent⟩,fun _=>[],0,[],[]⟩) (L:=(ZdO p xs)) (args:=[.c (.hs .no Zah xs), .c (.raw ((Value.func (.func g) #[] caps.toArray)))]) Tryz.func40 ⟨rfl,rfl⟩ (fun c hc'=>?_) hsz hgl ⟨v,_,rfl,hv,_,[],rfl,⟨rfl,rfl⟩,rfl⟩ (fun hwf=>?_)
 ·exact Zh4
 refine Eq.mpr (β:=T4 ((∃ q:Nat,(q≤xs.length∧∀ j,j < q→p (Zaa xs j)=false)∧lxs [hn Zah xs, .c (.raw ((Value.func (.func g) #[] caps.toArray))), .tp [], .tp []] (True∧True∧lxs [hn Zah xs,ci xs.length] (vI 0 q∧TN 10 True))∧pt (True))∧∀ y0:Nat,(y0≤xs.length∧∀ j,j < y0→p (Zaa xs j)=false)→True∧bif ltI y0 xs.length then T5 (ix 1 y0 xs.length∧True∧pt ((Value.func (.func g) #[] caps.toArray)=(Value.func (.func g) #[] caps.toArray))∧bif p (Zaa xs y0) then T2 (pt (cI y0 (ZaM p xs))) else T2 (∃ y0' : Nat,(y0'≤xs.length∧∀ j,j < y0'→p (Zaa xs j)=false)∧(xs.length - y0') < (xs.length - y0)∧lxs [hn Zah xs, .c (.raw ((Value.func (.func g) #[] caps.toArray))), .tp [], .tp []] (True∧True∧lxs [hn Zah xs,ci xs.length] (vI (w64 ((y0:Int) + 1)) y0'∧TN 10 True))∧pt (True))) else True∧pt (cI (-1) (ZaM p xs)))) (by kernel_rfl) ?_
 simp only [SIA,eq_self]
 have hm:xs.length≤maxLen:=hwf.1.1
 refine ⟨⟨0,⟨Nat.zero_le _,Zbp⟩,rfl⟩,fun k hk=>⟨fun hlt=>⟨by omega,fun hp=>?_,fun hp=>?_⟩,fun hge=>?_⟩⟩
 ·have hk' : k < xs.length:=by omega
  exact (Zkn (t:=Zah) hk' hk.2 hp).symm
 ·exact ZeB
 ·obtain rfl:k=xs.length:=by omega
  exact (ZdG (t:=Zah) hk.2).symm
def Zbs:ZhD Tryz.prog:=⟨40,Zah,false,fun p xs=>.int .i64 (ZaM p xs),ZdP,Tryz.call40⟩
def ZeN (xs:List ByteArray) (ys:List ByteArray):Nat→List AV→Mem→Zbe
 | 4,tm,M=>⟨Nat,fun y=>(Zcp (ZcG tm [(4, .any),(5, .any),(13, .c (.int .i64 ((y:Nat):Int)))]) 14 12,M),fun y=>(y≤List.length xs∧∀ j,j < y→Zaa xs j=Zaa ys j),fun y=>(List.length xs - y)⟩
 | _,_,_=>⟨Unit,fun _=>([],[]),fun _=>False,fun _=>0⟩
theorem ZeO (xs:List ByteArray) (ys:List ByteArray):Zaq Tryz.prog 151 [.c (.hs .no Zah xs), .c (.hs .no Zah ys)] (.c (.bool (Za1 xs ys))) []:=by
 refine bc0 [] [] [] [] (ZeN xs ys) Tryz.func151 (fun hwf=>?_)
 refine Eq.mpr (β:=T6 (bif neI xs.length ys.length then True∧rB false (Za1 xs ys) else T3 ((∃ q:Nat,(q≤xs.length∧∀ j,j < q→Zaa xs j=Zaa ys j)∧lxs [hn Zah xs,hn Zah ys, .tp [], .tp []] (True∧True∧lxs [hn Zah xs,ci xs.length,hn Zah ys,ci ys.length, .c (.bool false),hn Zah xs,ci xs.length] (vI 0 q∧TN 12 True))∧pt (True))∧∀ y0:Nat,(y0≤xs.length∧∀ j,j < y0→Zaa xs j=Zaa ys j)→True∧bif ltI y0 xs.length then T2 (pt (true=true)∧T2 (ix 1 y0 xs.length∧T3 (ix 1 y0 ys.length∧T2 (bif !eqS (Zaa xs y0) (Zaa ys y0) then True∧rB false (Za1 xs ys) else T2 (∃ y0' : Nat,(y0'≤xs.length∧∀ j,j < y0'→Zaa xs j=Zaa ys j)∧(xs.length - y0') < (xs.length - y0)∧lxs [hn Zah xs,hn Zah ys, .tp [], .tp []] (True∧True∧lxs [hn Zah xs,ci xs.length,hn Zah ys,ci ys.length, .c (.bool false),hn Zah xs,ci xs.length] (vI (w64 ((y0:Int) + 1)) y0'∧TN 12 True))∧pt (True)))))) else True∧rB true (Za1 xs ys)))) (by kernel_rfl) ?_
 unfold T2 T3 T6
 simp only [SIA,eq_self]
 have hm:xs.length≤maxLen:=hwf.1.1
 refine ⟨fun hl=>?_,fun hl=>⟨⟨0,⟨Nat.zero_le _,Zbp⟩,rfl⟩,fun k hk=>⟨fun hlt=>⟨by omega,by omega,fun hp=>?_,fun hp=>?_⟩,fun hge=>?_⟩⟩⟩
 ·exact (Zbx.2 (fun e=>hl (by rw [e]))).symm
 ·exact (Zbx.2 (fun e=>(hp) (by rw [e]))).symm
 ·exact ZeB
 ·obtain rfl:k=xs.length:=by omega
  have hl' : xs.length=ys.length:=by omega
  exact (ZcE.2 (Zew (t:=Zah) hl' hk.2)).symm
def ZeP:ZaD Tryz.prog:=⟨151,[.v (.list Zah), .v (.list Zah)],fun x=>True,fun x=>.c (.bool (Za1 x.1 x.2.1)),fun _=>[],fun x hx=>ZeO x.1 x.2.1,Tryz.call151⟩
def ZbZ (p:GScope→GScope→Bool) (xs ys:List GScope):Nat→List AV→Mem→Zbe
 | 4,tm,M=>⟨Nat,fun y=>(Zcp (Zcp (ZcG tm [(17, .c (.int .i64 ((y:Nat):Int)))]) 6 4) 18 14,M),fun y=>(y≤List.length xs∧∀ j,j < y→p (Zad xs j) (Zad ys j)=true),fun y=>(List.length xs - y)⟩
 | _,_,_=>⟨Unit,fun _=>([],[]),fun _=>False,fun _=>0⟩
theorem Zb0 (p:GScope→GScope→Bool) (xs ys:List GScope) (u:Value) (X:List Nat) (W:World) (v:Value) (v2:Value) (hsz:∀ b ∈ X,b < W.heap.size) (hgl:ZiD W []) (hv:Zbo X W [] [] (.hs .no Zae xs) v) (hv2:Zbo X W [] [] (.hs .no Zae ys) v2) (hc:Zsl X W Tryz.prog u true Zae p) :
 Calls Tryz.prog 149 #[v,v2,u] W (fun e W'=>∃ v E',e=.returned v∧Zbb W [] W' E'∧RepM X W' E' []∧Zcd X W' E' [] (.c (.bool (Zb5 p xs ys))) v):=by
 obtain ⟨g,caps,rfl,ent,hc⟩:=hc
 refine Zfd (T:=⟨[],[],[],[],some ⟨_,g,caps,rfl,[.s Zae, .s Zae],fun x=>.c (.bool (p x.1 x.2.1)),ent⟩,fun _=>[],0,[],[]⟩) (L:=(ZbZ p xs ys)) (args:=[.c (.hs .no Zae xs), .c (.hs .no Zae ys), .c (.raw ((Value.func (.func g) #[] caps.toArray)))]) Tryz.func149 ⟨rfl,rfl⟩ (fun c hc'=>?_) hsz hgl ⟨v,_,rfl,hv,v2,_,rfl,hv2,_,[],rfl,⟨rfl,rfl⟩,rfl⟩ (fun hwf=>?_)
 ·exact Zvc
 refine Eq.mpr (β:=T6 (bif neI xs.length ys.length then True∧pt (cB false (Zb5 p xs ys)) else T3 ((∃ q:Nat,(q≤xs.length∧∀ j,j < q→p (Zad xs j) (Zad ys j)=true)∧lxs [hn Zae xs,hn Zae ys, .c (.raw ((Value.func (.func g) #[] caps.toArray)))] (tpn 3 (TN 4 (lxs [hn Zae xs,ci xs.length,hn Zae ys,ci ys.length, .c (.bool false),hn Zae xs,ci xs.length] (vI 0 q∧TN 14 True))))∧pt (True))∧∀ y0:Nat,(y0≤xs.length∧∀ j,j < y0→p (Zad xs j) (Zad ys j)=true)→True∧bif ltI y0 xs.length then True∧ix 3 y0 xs.length∧T6 (ix 3 y0 ys.length∧T6 (pt ((Value.func (.func g) #[] caps.toArray)=(Value.func (.func g) #[] caps.toArray))∧True∧bif !(p (Zad xs y0) (Zad ys y0)) then True∧pt (cB false (Zb5 p xs ys)) else T2 (∃ y0' : Nat,(y0'≤xs.length∧∀ j,j < y0'→p (Zad xs j) (Zad ys j)=true)∧(xs.length - y0') < (xs.length - y0)∧lxs [hn Zae xs,hn Zae ys, .c (.raw ((Value.func (.func g) #[] caps.toArray)))] (tpn 3 (TN 4 (lxs [hn Zae xs,ci xs.length,hn Zae ys,ci ys.length, .c (.bool false),hn Zae xs,ci xs.length] (vI (w64 ((y0:Int) + 1)) y0'∧TN 14 True))))∧pt (True)))) else True∧pt (cB true (Zb5 p xs ys))))) (by kernel_rfl) ?_
 simp only [SIA,eq_self]
 have hm:xs.length≤maxLen:=hwf.1.1
 refine ⟨fun hl=>?_,fun hl=>⟨⟨0,⟨Nat.zero_le _,Zbp⟩,rfl⟩,fun k hk=>⟨fun hlt=>⟨by omega,by omega,fun hp=>?_,fun hp=>?_⟩,fun hge=>?_⟩⟩⟩
 ·exact (ZsK (fun e=>hl (by rw [e]))).symm
 ·have hk1:k < xs.length:=by omega
  have hk2:k < ys.length:=by omega
  exact (Zop (t:=Zae) hk1 hk2 hp).symm
 ·exact ZeB
 ·obtain rfl:k=xs.length:=by omega
  have hl' : xs.length=ys.length:=by omega
  exact (ZzZ (t:=Zae) hl' hk.2).symm
def Zb1:ZhE Tryz.prog:=⟨149,Zae,true,fun p xs ys=>.bool (Zb5 p xs ys),Zb0,Tryz.call149⟩
def Zb2 (p:GToken→GToken→Bool) (xs ys:List GToken):Nat→List AV→Mem→Zbe
 | 4,tm,M=>⟨Nat,fun y=>(Zcp (Zcp (ZcG tm [(17, .c (.int .i64 ((y:Nat):Int)))]) 6 4) 18 14,M),fun y=>(y≤List.length xs∧∀ j,j < y→p (Zag xs j) (Zag ys j)=true),fun y=>(List.length xs - y)⟩
 | _,_,_=>⟨Unit,fun _=>([],[]),fun _=>False,fun _=>0⟩
theorem Zb3 (p:GToken→GToken→Bool) (xs ys:List GToken) (u:Value) (X:List Nat) (W:World) (v:Value) (v2:Value) (hsz:∀ b ∈ X,b < W.heap.size) (hgl:ZiD W []) (hv:Zbo X W [] [] (.hs .no Zab xs) v) (hv2:Zbo X W [] [] (.hs .no Zab ys) v2) (hc:Zsl X W Tryz.prog u true Zab p) :
 Calls Tryz.prog 117 #[v,v2,u] W (fun e W'=>∃ v E',e=.returned v∧Zbb W [] W' E'∧RepM X W' E' []∧Zcd X W' E' [] (.c (.bool (Zb5 p xs ys))) v):=by
 obtain ⟨g,caps,rfl,ent,hc⟩:=hc
 refine Zfd (T:=⟨[],[],[],[],some ⟨_,g,caps,rfl,[.s Zab, .s Zab],fun x=>.c (.bool (p x.1 x.2.1)),ent⟩,fun _=>[],0,[],[]⟩) (L:=(Zb2 p xs ys)) (args:=[.c (.hs .no Zab xs), .c (.hs .no Zab ys), .c (.raw ((Value.func (.func g) #[] caps.toArray)))]) Tryz.func117 ⟨rfl,rfl⟩ (fun c hc'=>?_) hsz hgl ⟨v,_,rfl,hv,v2,_,rfl,hv2,_,[],rfl,⟨rfl,rfl⟩,rfl⟩ (fun hwf=>?_)
 ·exact Zvc
 refine Eq.mpr (β:=T6 (bif neI xs.length ys.length then True∧pt (cB false (Zb5 p xs ys)) else T3 ((∃ q:Nat,(q≤xs.length∧∀ j,j < q→p (Zag xs j) (Zag ys j)=true)∧lxs [hn Zab xs,hn Zab ys, .c (.raw ((Value.func (.func g) #[] caps.toArray)))] (tpn 3 (TN 4 (lxs [hn Zab xs,ci xs.length,hn Zab ys,ci ys.length, .c (.bool false),hn Zab xs,ci xs.length] (vI 0 q∧TN 14 True))))∧pt (True))∧∀ y0:Nat,(y0≤xs.length∧∀ j,j < y0→p (Zag xs j) (Zag ys j)=true)→True∧bif ltI y0 xs.length then True∧ix 2 y0 xs.length∧T6 (ix 2 y0 ys.length∧T6 (pt ((Value.func (.func g) #[] caps.toArray)=(Value.func (.func g) #[] caps.toArray))∧True∧bif !(p (Zag xs y0) (Zag ys y0)) then True∧pt (cB false (Zb5 p xs ys)) else T2 (∃ y0' : Nat,(y0'≤xs.length∧∀ j,j < y0'→p (Zag xs j) (Zag ys j)=true)∧(xs.length - y0') < (xs.length - y0)∧lxs [hn Zab xs,hn Zab ys, .c (.raw ((Value.func (.func g) #[] caps.toArray)))] (tpn 3 (TN 4 (lxs [hn Zab xs,ci xs.length,hn Zab ys,ci ys.length, .c (.bool false),hn Zab xs,ci xs.length] (vI (w64 ((y0:Int) + 1)) y0'∧TN 14 True))))∧pt (True)))) else True∧pt (cB true (Zb5 p xs ys))))) (by kernel_rfl) ?_
 simp only [SIA,eq_self]
 have hm:xs.length≤maxLen:=hwf.1.1
 refine ⟨fun hl=>?_,fun hl=>⟨⟨0,⟨Nat.zero_le _,Zbp⟩,rfl⟩,fun k hk=>⟨fun hlt=>⟨by omega,by omega,fun hp=>?_,fun hp=>?_⟩,fun hge=>?_⟩⟩⟩
 ·exact (ZsK (fun e=>hl (by rw [e]))).symm
 ·have hk1:k < xs.length:=by omega
  have hk2:k < ys.length:=by omega
  exact (Zop (t:=Zab) hk1 hk2 hp).symm
 ·exact ZeB
 ·obtain rfl:k=xs.length:=by omega
  have hl' : xs.length=ys.length:=by omega
  exact (ZzZ (t:=Zab) hl' hk.2).symm
def Zb4:ZhE Tryz.prog:=⟨117,Zab,true,fun p xs ys=>.bool (Zb5 p xs ys),Zb3,Tryz.call117⟩
end Go.Proofs.YtkeglpnnedflnaaGreatDoor
