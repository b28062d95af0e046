import Derived.Test.YtkompmgleojmlaaGreatHBmTy
set_option linter.unusedSimpArgs false
set_option linter.unusedVariables false
set_option maxRecDepth 100000
set_option maxHeartbeats 4000000
namespace Go.Proofs.YtkompmgleojmlaaGreat
open Go.ChangeShapes Go.WideShapes Go.ChangeAt Go.RowKit Go.Joins Go.Deep
open GoRep (rep bulk)
def ZvU (a:List ByteArray) (b:List ByteArray):Nat→List AV→Mem→Zbj
 | 4,tm,M=>⟨Nat,fun y=>(Zcn (ZcC tm [(4, .any),(5, .c (.int .i64 ((y:Nat):Int)))]) 11 15,M),fun y=>(y≤List.length a∧∀ j,j < y→ZaF a j=ZaF b j),fun y=>(List.length a - y)⟩
 | _,_,_=>⟨Unit,fun _=>([],[]),fun _=>False,fun _=>0⟩
theorem ZvV (a:List ByteArray) (b:List ByteArray):Zam Tryz.prog 303 [.c (.hs .no ZaW a), .c (.hs .no ZaW b)] (.c (.bool (ZbP a b))) []:=by
 refine bc0 [] [] [] [] (ZvU a b) Tryz.func303 (fun hwf=>?_)
 refine Eq.mpr (β:=T6 (bif neI a.length b.length then True∧rB false (ZbP a b) else True∧(∃ q:Nat,(q≤a.length∧∀ j,j < q→ZaF a j=ZaF b j)∧lxs [hn ZaW a,hn ZaW b, .tp [], .tp []] (True∧vI 0 q∧lxs [hn ZaW a,ci a.length,hn ZaW b,ci b.length, .c (.bool false)] (TN 15 True))∧pt (True))∧∀ y0:Nat,(y0≤a.length∧∀ j,j < y0→ZaF a j=ZaF b j)→T4 (bif ltI y0 a.length then pt (true=true)∧T2 (ix 1 y0 a.length∧T3 (ix 1 y0 b.length∧T2 (bif !eqS (ZaF a y0) (ZaF b y0) then True∧rB false (ZbP a b) else T3 (∃ y0' : Nat,(y0'≤a.length∧∀ j,j < y0'→ZaF a j=ZaF b j)∧(a.length - y0') < (a.length - y0)∧lxs [hn ZaW a,hn ZaW b, .tp [], .tp []] (True∧vI (w64 ((y0:Int) + 1)) y0'∧lxs [hn ZaW a,ci a.length,hn ZaW b,ci b.length, .c (.bool false)] (TN 15 True))∧pt (True))))) else True∧rB true (ZbP a b)))) (by kernel_rfl) ?_
 unfold T2 T3 T4 T6
 simp only [SIA,eq_self]
 have hm0:List.length a≤maxLen:=hwf.1.1
 repeat' (first | apply And.intro | intro _)
 all_goals (first
  | trivial
  | omega
  | exact ⟨0,⟨Nat.zero_le _,Za7⟩,rfl⟩
  | (refine ⟨_,⟨?_,ZaY (And.right (by assumption)) ?_⟩,?_,ZbL ?_⟩ <;> first | omega | (simp_all [Prod.ext_iff,EQA]; done))
  | exact (Zcs.2 (fun e=>by subst e; simp_all [EQA])).symm
  | exact (ZdP.2 (by have hx:=Zcq (t:=ZaW) (xs:=a) (ys:=b) (show List.length a=List.length b by omega) (fun j hj=>(by assumption:_≤List.length a∧∀ j,j < _→ZaF a j=ZaF b j).2 j (by have hj' : j < List.length a:=hj; omega)); simp_all [Prod.ext_iff,EQA])).symm
  | (rw [Bool.eq_iff_iff]; simp_all [Prod.ext_iff,EQA]; done)
  | (simp_all [Prod.ext_iff,EQA]; done))
def ZvW:ZaC Tryz.prog:=⟨303,[.v (.list ZaW), .v (.list ZaW)],fun x=>True,fun x=>.c (.bool (ZbP x.1 x.2.1)),fun _=>[],fun x hx=>ZvV x.1 x.2.1,Tryz.call303⟩
theorem ZEc (a:ZaZ) (b:ZaZ):Zam Tryz.prog 279 [.ag [.int .i64 a.1, .hs .no ZaW a.2.1, .int .i64 a.2.2], .ag [.int .i64 b.1, .hs .no ZaW b.2.1, .int .i64 b.2.2]] (.c (.bool (ZcM a b))) []:=by
 refine bc0 [ZvW] [] [] [] L0 Tryz.func279 (fun hwf=>?_)
 refine Eq.mpr (β:=T8 (bif neI a.1 b.1 then True∧rB false (ZcM a b) else T4 (pt True∧True∧bif !(ZbP a.2.1 b.2.1) then True∧rB false (ZcM a b) else T5 (bif neI a.2.2 b.2.2 then True∧rB false (ZcM a b) else True∧rB true (ZcM a b))))) (by kernel_rfl) ?_
 simp only [SIA,eq_self]
 repeat' (first | apply And.intro | intro _)
 all_goals (first
  | trivial
  | omega
  | exact (ZgX.2 (fun e=>by subst e; simp_all [EQA])).symm
  | (rw [Bool.eq_iff_iff]; simp_all [Prod.ext_iff,EQA]; done)
  | (simp_all [Prod.ext_iff,EQA]; done))
def ZEd:ZaC Tryz.prog:=⟨279,[.s Zak, .s Zak],fun x=>True,fun x=>.c (.bool (ZcM x.1 x.2.1)),fun _=>[],fun x hx=>ZEc x.1 x.2.1,Tryz.call279⟩
def Zyz (a:List ZaZ) (b:List ZaZ):Nat→List AV→Mem→Zbj
 | 4,tm,M=>⟨Nat,fun y=>(Zcn (ZcC tm [(4, .any),(5, .c (.int .i64 ((y:Nat):Int)))]) 11 16,M),fun y=>(y≤List.length a∧∀ j,j < y→Zaq a j=Zaq b j),fun y=>(List.length a - y)⟩
 | _,_,_=>⟨Unit,fun _=>([],[]),fun _=>False,fun _=>0⟩
theorem ZyA (a:List ZaZ) (b:List ZaZ):Zam Tryz.prog 249 [.c (.hs .no Zak a), .c (.hs .no Zak b)] (.c (.bool (ZeE a b))) []:=by
 refine bc0 [ZEd] [] [] [] (Zyz a b) Tryz.func249 (fun hwf=>?_)
 refine Eq.mpr (β:=T6 (bif neI a.length b.length then True∧rB false (ZeE a b) else True∧(∃ q:Nat,(q≤a.length∧∀ j,j < q→Zaq a j=Zaq b j)∧lxs [hn Zak a,hn Zak b, .tp [], .tp []] (True∧vI 0 q∧lxs [hn Zak a,ci a.length,hn Zak b,ci b.length, .c (.bool false)] (TN 16 True))∧pt (True))∧∀ y0:Nat,(y0≤a.length∧∀ j,j < y0→Zaq a j=Zaq b j)→T4 (bif ltI y0 a.length then pt (true=true)∧T2 (ix 3 y0 a.length∧T3 (ix 3 y0 b.length∧True∧pt True∧True∧bif !(ZcM (Zaq a y0) (Zaq b y0)) then True∧rB false (ZeE a b) else T3 (∃ y0' : Nat,(y0'≤a.length∧∀ j,j < y0'→Zaq a j=Zaq b j)∧(a.length - y0') < (a.length - y0)∧lxs [hn Zak a,hn Zak b, .tp [], .tp []] (True∧vI (w64 ((y0:Int) + 1)) y0'∧lxs [hn Zak a,ci a.length,hn Zak b,ci b.length, .c (.bool false)] (TN 16 True))∧pt (True)))) else True∧rB true (ZeE a b)))) (by kernel_rfl) ?_
 unfold T2 T3 T4 T6
 simp only [SIA,eq_self]
 have hm0:List.length a≤maxLen:=hwf.1.1
 repeat' (first | apply And.intro | intro _)
 all_goals (first
  | trivial
  | omega
  | exact ⟨0,⟨Nat.zero_le _,Za7⟩,rfl⟩
  | (refine ⟨_,⟨?_,ZaY (And.right (by assumption)) ?_⟩,?_,ZbL ?_⟩ <;> first | omega | (simp_all [Prod.ext_iff,EQA]; done))
  | exact (ZfY.2 (fun e=>by subst e; simp_all [EQA])).symm
  | exact (ZgY.2 (by have hx:=Zcq (t:=Zak) (xs:=a) (ys:=b) (show List.length a=List.length b by omega) (fun j hj=>(by assumption:_≤List.length a∧∀ j,j < _→Zaq a j=Zaq b j).2 j (by have hj' : j < List.length a:=hj; omega)); simp_all [Prod.ext_iff,EQA])).symm
  | (rw [Bool.eq_iff_iff]; simp_all [Prod.ext_iff,EQA]; done)
  | (simp_all [Prod.ext_iff,EQA]; done))
def ZyB:ZaC Tryz.prog:=⟨249,[.v (.list Zak), .v (.list Zak)],fun x=>True,fun x=>.c (.bool (ZeE x.1 x.2.1)),fun _=>[],fun x hx=>ZyA x.1 x.2.1,Tryz.call249⟩
theorem ZyC (a:Zb3) (b:Zb3):Zam Tryz.prog 192 [.ag [.bool a.1, .hs .no Zak a.2], .ag [.bool b.1, .hs .no Zak b.2]] (.c (.bool (ZbK a b))) []:=by
 refine bc0 [ZyB] [] [] [] L0 Tryz.func192 (fun hwf=>?_)
 refine Eq.mpr (β:=T7 (some TypeDesc.bool=some TypeDesc.bool∧bif !eqO a.1 b.1 then True∧rB false (ZbK a b) else T4 (pt True∧True∧bif !(ZeE a.2 b.2) then True∧rB false (ZbK a b) else True∧rB true (ZbK a b)))) (by kernel_rfl) ?_
 simp only [SIA,eq_self]
 repeat' (first | apply And.intro | intro _)
 all_goals (first
  | trivial
  | omega
  | exact (Zew.2 (fun e=>by subst e; simp_all [EQA])).symm
  | (rw [Bool.eq_iff_iff]; simp_all [Prod.ext_iff,EQA]; done)
  | (simp_all [Prod.ext_iff,EQA]; done))
def ZyD:ZaC Tryz.prog:=⟨192,[.s Zdd, .s Zdd],fun x=>True,fun x=>.c (.bool (ZbK x.1 x.2.1)),fun _=>[],fun x hx=>ZyC x.1 x.2.1,Tryz.call192⟩
theorem ZJL (a:Zds) (b:Zds):Zam Tryz.prog 277 [.ag [.int .i64 a.1, .int .i64 a.2.1, .str a.2.2], .ag [.int .i64 b.1, .int .i64 b.2.1, .str b.2.2]] (.c (.bool (ZiT a b))) []:=by
 refine bc0 [] [] [] [] L0 Tryz.func277 (fun hwf=>?_)
 refine Eq.mpr (β:=T8 (bif neI a.1 b.1 then True∧rB false (ZiT a b) else T5 (bif neI a.2.1 b.2.1 then True∧rB false (ZiT a b) else T5 (bif !eqS a.2.2 b.2.2 then True∧rB false (ZiT a b) else True∧rB true (ZiT a b))))) (by kernel_rfl) ?_
 simp only [SIA,eq_self]
 repeat' (first | apply And.intro | intro _)
 all_goals (first
  | trivial
  | omega
  | exact (ZiU.2 (fun e=>by subst e; simp_all [EQA])).symm
  | (rw [Bool.eq_iff_iff]; simp_all [Prod.ext_iff,EQA]; done)
  | (simp_all [Prod.ext_iff,EQA]; done))
def ZJM:ZaC Tryz.prog:=⟨277,[.s ZaU, .s ZaU],fun x=>True,fun x=>.c (.bool (ZiT x.1 x.2.1)),fun _=>[],fun x hx=>ZJL x.1 x.2.1,Tryz.call277⟩
def ZG9 (a:List Zds) (b:List Zds):Nat→List AV→Mem→Zbj
 | 4,tm,M=>⟨Nat,fun y=>(Zcn (ZcC tm [(4, .any),(5, .c (.int .i64 ((y:Nat):Int)))]) 11 16,M),fun y=>(y≤List.length a∧∀ j,j < y→ZaG a j=ZaG b j),fun y=>(List.length a - y)⟩
 | _,_,_=>⟨Unit,fun _=>([],[]),fun _=>False,fun _=>0⟩
theorem ZHa (a:List Zds) (b:List Zds):Zam Tryz.prog 247 [.c (.hs .no ZaU a), .c (.hs .no ZaU b)] (.c (.bool (Zd0 a b))) []:=by
 refine bc0 [ZJM] [] [] [] (ZG9 a b) Tryz.func247 (fun hwf=>?_)
 refine Eq.mpr (β:=T6 (bif neI a.length b.length then True∧rB false (Zd0 a b) else True∧(∃ q:Nat,(q≤a.length∧∀ j,j < q→ZaG a j=ZaG b j)∧lxs [hn ZaU a,hn ZaU b, .tp [], .tp []] (True∧vI 0 q∧lxs [hn ZaU a,ci a.length,hn ZaU b,ci b.length, .c (.bool false)] (TN 16 True))∧pt (True))∧∀ y0:Nat,(y0≤a.length∧∀ j,j < y0→ZaG a j=ZaG b j)→T4 (bif ltI y0 a.length then pt (true=true)∧T2 (ix 3 y0 a.length∧T3 (ix 3 y0 b.length∧True∧pt True∧True∧bif !(ZiT (ZaG a y0) (ZaG b y0)) then True∧rB false (Zd0 a b) else T3 (∃ y0' : Nat,(y0'≤a.length∧∀ j,j < y0'→ZaG a j=ZaG b j)∧(a.length - y0') < (a.length - y0)∧lxs [hn ZaU a,hn ZaU b, .tp [], .tp []] (True∧vI (w64 ((y0:Int) + 1)) y0'∧lxs [hn ZaU a,ci a.length,hn ZaU b,ci b.length, .c (.bool false)] (TN 16 True))∧pt (True)))) else True∧rB true (Zd0 a b)))) (by kernel_rfl) ?_
 unfold T2 T3 T4 T6
 simp only [SIA,eq_self]
 have hm0:List.length a≤maxLen:=hwf.1.1
 repeat' (first | apply And.intro | intro _)
 all_goals (first
  | trivial
  | omega
  | exact ⟨0,⟨Nat.zero_le _,Za7⟩,rfl⟩
  | (refine ⟨_,⟨?_,ZaY (And.right (by assumption)) ?_⟩,?_,ZbL ?_⟩ <;> first | omega | (simp_all [Prod.ext_iff,EQA]; done))
  | exact (Zes.2 (fun e=>by subst e; simp_all [EQA])).symm
  | exact (Zgq.2 (by have hx:=Zcq (t:=ZaU) (xs:=a) (ys:=b) (show List.length a=List.length b by omega) (fun j hj=>(by assumption:_≤List.length a∧∀ j,j < _→ZaG a j=ZaG b j).2 j (by have hj' : j < List.length a:=hj; omega)); simp_all [Prod.ext_iff,EQA])).symm
  | (rw [Bool.eq_iff_iff]; simp_all [Prod.ext_iff,EQA]; done)
  | (simp_all [Prod.ext_iff,EQA]; done))
def ZHb:ZaC Tryz.prog:=⟨247,[.v (.list ZaU), .v (.list ZaU)],fun x=>True,fun x=>.c (.bool (Zd0 x.1 x.2.1)),fun _=>[],fun x hx=>ZHa x.1 x.2.1,Tryz.call247⟩
theorem ZJN (a:ZaM) (b:ZaM):Zam Tryz.prog 189 [.ag (cellsOf Zaj a), .ag (cellsOf Zaj b)] (.c (.bool (Zcr a b))) []:=by
 refine bc0 [ZHb] [] [] [] L0 Tryz.func189 (fun hwf=>?_)
 refine Eq.mpr (β:=T8 (bif !eqS a.1 b.1 then True∧rB false (Zcr a b) else T5 (bif neI a.2.1 b.2.1 then True∧rB false (Zcr a b) else T5 (bif neI a.2.2.1 b.2.2.1 then True∧rB false (Zcr a b) else T4 (pt True∧True∧bif !(Zd0 a.2.2.2 b.2.2.2) then True∧rB false (Zcr a b) else True∧rB true (Zcr a b)))))) (by kernel_rfl) ?_
 simp only [SIA,eq_self]
 repeat' (first | apply And.intro | intro _)
 all_goals (first
  | trivial
  | omega
  | exact (ZcS.2 (fun e=>by subst e; simp_all [EQA])).symm
  | (rw [Bool.eq_iff_iff]; simp_all [Prod.ext_iff,EQA]; done)
  | (simp_all [Prod.ext_iff,EQA]; done))
def ZJO:ZaC Tryz.prog:=⟨189,[.s Zaj, .s Zaj],fun x=>True,fun x=>.c (.bool (Zcr x.1 x.2.1)),fun _=>[],fun x hx=>ZJN x.1 x.2.1,Tryz.call189⟩
def ZHc (a:List ZaM) (b:List ZaM):Nat→List AV→Mem→Zbj
 | 4,tm,M=>⟨Nat,fun y=>(Zcn (ZcC tm [(4, .any),(5, .c (.int .i64 ((y:Nat):Int)))]) 11 16,M),fun y=>(y≤List.length a∧∀ j,j < y→Zab a j=Zab b j),fun y=>(List.length a - y)⟩
 | _,_,_=>⟨Unit,fun _=>([],[]),fun _=>False,fun _=>0⟩
theorem ZHd (a:List ZaM) (b:List ZaM):Zam Tryz.prog 112 [.c (.hs .no Zaj a), .c (.hs .no Zaj b)] (.c (.bool (Zcb a b))) []:=by
 refine bc0 [ZJO] [] [] [] (ZHc a b) Tryz.func112 (fun hwf=>?_)
 refine Eq.mpr (β:=T6 (bif neI a.length b.length then True∧rB false (Zcb a b) else True∧(∃ q:Nat,(q≤a.length∧∀ j,j < q→Zab a j=Zab b j)∧lxs [hn Zaj a,hn Zaj b, .tp [], .tp []] (True∧vI 0 q∧lxs [hn Zaj a,ci a.length,hn Zaj b,ci b.length, .c (.bool false)] (TN 16 True))∧pt (True))∧∀ y0:Nat,(y0≤a.length∧∀ j,j < y0→Zab a j=Zab b j)→T4 (bif ltI y0 a.length then pt (true=true)∧T2 (ix 4 y0 a.length∧T3 (ix 4 y0 b.length∧True∧pt True∧True∧bif !(Zcr (Zab a y0) (Zab b y0)) then True∧rB false (Zcb a b) else T3 (∃ y0' : Nat,(y0'≤a.length∧∀ j,j < y0'→Zab a j=Zab b j)∧(a.length - y0') < (a.length - y0)∧lxs [hn Zaj a,hn Zaj b, .tp [], .tp []] (True∧vI (w64 ((y0:Int) + 1)) y0'∧lxs [hn Zaj a,ci a.length,hn Zaj b,ci b.length, .c (.bool false)] (TN 16 True))∧pt (True)))) else True∧rB true (Zcb a b)))) (by kernel_rfl) ?_
 unfold T2 T3 T4 T6
 simp only [SIA,eq_self]
 have hm0:List.length a≤maxLen:=hwf.1.1
 repeat' (first | apply And.intro | intro _)
 all_goals (first
  | trivial
  | omega
  | exact ⟨0,⟨Nat.zero_le _,Za7⟩,rfl⟩
  | (refine ⟨_,⟨?_,ZaY (And.right (by assumption)) ?_⟩,?_,ZbL ?_⟩ <;> first | omega | (simp_all [Prod.ext_iff,EQA]; done))
  | exact (eqT_LBox_false.2 (fun e=>by subst e; simp_all [EQA])).symm
  | exact (Zdg.2 (by have hx:=Zcq (t:=Zaj) (xs:=a) (ys:=b) (show List.length a=List.length b by omega) (fun j hj=>(by assumption:_≤List.length a∧∀ j,j < _→Zab a j=Zab b j).2 j (by have hj' : j < List.length a:=hj; omega)); simp_all [Prod.ext_iff,EQA])).symm
  | (rw [Bool.eq_iff_iff]; simp_all [Prod.ext_iff,EQA]; done)
  | (simp_all [Prod.ext_iff,EQA]; done))
def ZHe:ZaC Tryz.prog:=⟨112,[.v (.list Zaj), .v (.list Zaj)],fun x=>True,fun x=>.c (.bool (Zcb x.1 x.2.1)),fun _=>[],fun x hx=>ZHd x.1 x.2.1,Tryz.call112⟩
theorem ZyE (a:Zax) (b:Zax):Zam Tryz.prog 190 [.ag (cellsOf Zag a), .ag (cellsOf Zag b)] (.c (.bool (Zc8 a b))) []:=by
 refine bc0 [] [] [] [] L0 Tryz.func190 (fun hwf=>?_)
 refine Eq.mpr (β:=T8 (bif neI a.1 b.1 then True∧rB false (Zc8 a b) else T5 (bif neI a.2.1 b.2.1 then True∧rB false (Zc8 a b) else T5 (bif neI a.2.2.1 b.2.2.1 then True∧rB false (Zc8 a b) else T5 (bif neI a.2.2.2.1 b.2.2.2.1 then True∧rB false (Zc8 a b) else T5 (bif !eqS a.2.2.2.2.1 b.2.2.2.2.1 then True∧rB false (Zc8 a b) else T5 (bif !eqS a.2.2.2.2.2 b.2.2.2.2.2 then True∧rB false (Zc8 a b) else True∧rB true (Zc8 a b)))))))) (by kernel_rfl) ?_
 unfold T5 T8
 simp only [SIA,eq_self]
 repeat' (first | apply And.intro | intro _)
 all_goals (first
  | trivial
  | omega
  | exact (ZfZ.2 (fun e=>by subst e; simp_all [EQA])).symm
  | (rw [Bool.eq_iff_iff]; simp_all [Prod.ext_iff,EQA]; done)
  | (simp_all [Prod.ext_iff,EQA]; done))
def ZyF:ZaC Tryz.prog:=⟨190,[.s Zag, .s Zag],fun x=>True,fun x=>.c (.bool (Zc8 x.1 x.2.1)),fun _=>[],fun x hx=>ZyE x.1 x.2.1,Tryz.call190⟩
def ZvX (a:List Zax) (b:List Zax):Nat→List AV→Mem→Zbj
 | 4,tm,M=>⟨Nat,fun y=>(Zcn (ZcC tm [(4, .any),(5, .c (.int .i64 ((y:Nat):Int)))]) 11 16,M),fun y=>(y≤List.length a∧∀ j,j < y→Zac a j=Zac b j),fun y=>(List.length a - y)⟩
 | _,_,_=>⟨Unit,fun _=>([],[]),fun _=>False,fun _=>0⟩
theorem ZvY (a:List Zax) (b:List Zax):Zam Tryz.prog 113 [.c (.hs .no Zag a), .c (.hs .no Zag b)] (.c (.bool (Zd7 a b))) []:=by
 refine bc0 [ZyF] [] [] [] (ZvX a b) Tryz.func113 (fun hwf=>?_)
 refine Eq.mpr (β:=T6 (bif neI a.length b.length then True∧rB false (Zd7 a b) else True∧(∃ q:Nat,(q≤a.length∧∀ j,j < q→Zac a j=Zac b j)∧lxs [hn Zag a,hn Zag b, .tp [], .tp []] (True∧vI 0 q∧lxs [hn Zag a,ci a.length,hn Zag b,ci b.length, .c (.bool false)] (TN 16 True))∧pt (True))∧∀ y0:Nat,(y0≤a.length∧∀ j,j < y0→Zac a j=Zac b j)→T4 (bif ltI y0 a.length then pt (true=true)∧T2 (ix 6 y0 a.length∧T3 (ix 6 y0 b.length∧True∧pt True∧True∧bif !(Zc8 (Zac a y0) (Zac b y0)) then True∧rB false (Zd7 a b) else T3 (∃ y0' : Nat,(y0'≤a.length∧∀ j,j < y0'→Zac a j=Zac b j)∧(a.length - y0') < (a.length - y0)∧lxs [hn Zag a,hn Zag b, .tp [], .tp []] (True∧vI (w64 ((y0:Int) + 1)) y0'∧lxs [hn Zag a,ci a.length,hn Zag b,ci b.length, .c (.bool false)] (TN 16 True))∧pt (True)))) else True∧rB true (Zd7 a b)))) (by kernel_rfl) ?_
 unfold T2 T3 T4 T6
 simp only [SIA,eq_self]
 have hm0:List.length a≤maxLen:=hwf.1.1
 repeat' (first | apply And.intro | intro _)
 all_goals (first
  | trivial
  | omega
  | exact ⟨0,⟨Nat.zero_le _,Za7⟩,rfl⟩
  | (refine ⟨_,⟨?_,ZaY (And.right (by assumption)) ?_⟩,?_,ZbL ?_⟩ <;> first | omega | (simp_all [Prod.ext_iff,EQA]; done))
  | exact (Zfj.2 (fun e=>by subst e; simp_all [EQA])).symm
  | exact (Zf0.2 (by have hx:=Zcq (t:=Zag) (xs:=a) (ys:=b) (show List.length a=List.length b by omega) (fun j hj=>(by assumption:_≤List.length a∧∀ j,j < _→Zac a j=Zac b j).2 j (by have hj' : j < List.length a:=hj; omega)); simp_all [Prod.ext_iff,EQA])).symm
  | (rw [Bool.eq_iff_iff]; simp_all [Prod.ext_iff,EQA]; done)
  | (simp_all [Prod.ext_iff,EQA]; done))
def ZvZ:ZaC Tryz.prog:=⟨113,[.v (.list Zag), .v (.list Zag)],fun x=>True,fun x=>.c (.bool (Zd7 x.1 x.2.1)),fun _=>[],fun x hx=>ZvY x.1 x.2.1,Tryz.call113⟩
theorem ZEe (a:ZaI) (b:ZaI):Zam Tryz.prog 43 [.ag (cellsOf ZbJ a), .ag (cellsOf ZbJ b)] (.c (.bool (ZeR a b))) []:=by
 refine bc0 [ZHe,ZvZ] [] [] [] L0 Tryz.func43 (fun hwf=>?_)
 refine Eq.mpr (β:=T7 (pt True∧True∧bif !(Zcb a.1 b.1) then True∧rB false (ZeR a b) else T4 (pt True∧True∧bif !(Zd7 a.2.1 b.2.1) then True∧rB false (ZeR a b) else T5 (bif neI a.2.2 b.2.2 then True∧rB false (ZeR a b) else True∧rB true (ZeR a b))))) (by kernel_rfl) ?_
 simp only [SIA,eq_self]
 repeat' (first | apply And.intro | intro _)
 all_goals (first
  | trivial
  | omega
  | exact (Zg0.2 (fun e=>by subst e; simp_all [EQA])).symm
  | (rw [Bool.eq_iff_iff]; simp_all [Prod.ext_iff,EQA]; done)
  | (simp_all [Prod.ext_iff,EQA]; done))
def ZEf:ZaC Tryz.prog:=⟨43,[.s ZbJ, .s ZbJ],fun x=>True,fun x=>.c (.bool (ZeR x.1 x.2.1)),fun _=>[],fun x hx=>ZEe x.1 x.2.1,Tryz.call43⟩
theorem ZHf (a:ZbX) (b:ZbX):Zam Tryz.prog 278 [.ag [.int .i64 a.1, .int .i64 a.2], .ag [.int .i64 b.1, .int .i64 b.2]] (.c (.bool (Zhu a b))) []:=by
 refine bc0 [] [] [] [] L0 Tryz.func278 (fun hwf=>?_)
 refine Eq.mpr (β:=T8 (bif neI a.1 b.1 then True∧rB false (Zhu a b) else T5 (bif neI a.2 b.2 then True∧rB false (Zhu a b) else True∧rB true (Zhu a b)))) (by kernel_rfl) ?_
 simp only [SIA,eq_self]
 repeat' (first | apply And.intro | intro _)
 all_goals (first
  | trivial
  | omega
  | exact (ZhX.2 (fun e=>by subst e; simp_all [EQA])).symm
  | (rw [Bool.eq_iff_iff]; simp_all [Prod.ext_iff,EQA]; done)
  | (simp_all [Prod.ext_iff,EQA]; done))
def ZHg:ZaC Tryz.prog:=⟨278,[.s Zay, .s Zay],fun x=>True,fun x=>.c (.bool (Zhu x.1 x.2.1)),fun _=>[],fun x hx=>ZHf x.1 x.2.1,Tryz.call278⟩
def ZEg (a:List ZbX) (b:List ZbX):Nat→List AV→Mem→Zbj
 | 4,tm,M=>⟨Nat,fun y=>(Zcn (ZcC tm [(4, .any),(5, .c (.int .i64 ((y:Nat):Int)))]) 11 16,M),fun y=>(y≤List.length a∧∀ j,j < y→ZaX a j=ZaX b j),fun y=>(List.length a - y)⟩
 | _,_,_=>⟨Unit,fun _=>([],[]),fun _=>False,fun _=>0⟩
theorem ZEh (a:List ZbX) (b:List ZbX):Zam Tryz.prog 248 [.c (.hs .no Zay a), .c (.hs .no Zay b)] (.c (.bool (Zbw a b))) []:=by
 refine bc0 [ZHg] [] [] [] (ZEg a b) Tryz.func248 (fun hwf=>?_)
 refine Eq.mpr (β:=T6 (bif neI a.length b.length then True∧rB false (Zbw a b) else True∧(∃ q:Nat,(q≤a.length∧∀ j,j < q→ZaX a j=ZaX b j)∧lxs [hn Zay a,hn Zay b, .tp [], .tp []] (True∧vI 0 q∧lxs [hn Zay a,ci a.length,hn Zay b,ci b.length, .c (.bool false)] (TN 16 True))∧pt (True))∧∀ y0:Nat,(y0≤a.length∧∀ j,j < y0→ZaX a j=ZaX b j)→T4 (bif ltI y0 a.length then pt (true=true)∧T2 (ix 2 y0 a.length∧T3 (ix 2 y0 b.length∧True∧pt True∧True∧bif !(Zhu (ZaX a y0) (ZaX b y0)) then True∧rB false (Zbw a b) else T3 (∃ y0' : Nat,(y0'≤a.length∧∀ j,j < y0'→ZaX a j=ZaX b j)∧(a.length - y0') < (a.length - y0)∧lxs [hn Zay a,hn Zay b, .tp [], .tp []] (True∧vI (w64 ((y0:Int) + 1)) y0'∧lxs [hn Zay a,ci a.length,hn Zay b,ci b.length, .c (.bool false)] (TN 16 True))∧pt (True)))) else True∧rB true (Zbw a b)))) (by kernel_rfl) ?_
 unfold T2 T3 T4 T6
 simp only [SIA,eq_self]
 have hm0:List.length a≤maxLen:=hwf.1.1
 repeat' (first | apply And.intro | intro _)
 all_goals (first
  | trivial
  | omega
  | exact ⟨0,⟨Nat.zero_le _,Za7⟩,rfl⟩
  | (refine ⟨_,⟨?_,ZaY (And.right (by assumption)) ?_⟩,?_,ZbL ?_⟩ <;> first | omega | (simp_all [Prod.ext_iff,EQA]; done))
  | exact (ZcB.2 (fun e=>by subst e; simp_all [EQA])).symm
  | exact (Zer.2 (by have hx:=Zcq (t:=Zay) (xs:=a) (ys:=b) (show List.length a=List.length b by omega) (fun j hj=>(by assumption:_≤List.length a∧∀ j,j < _→ZaX a j=ZaX b j).2 j (by have hj' : j < List.length a:=hj; omega)); simp_all [Prod.ext_iff,EQA])).symm
  | (rw [Bool.eq_iff_iff]; simp_all [Prod.ext_iff,EQA]; done)
  | (simp_all [Prod.ext_iff,EQA]; done))
def ZEi:ZaC Tryz.prog:=⟨248,[.v (.list Zay), .v (.list Zay)],fun x=>True,fun x=>.c (.bool (Zbw x.1 x.2.1)),fun _=>[],fun x hx=>ZEh x.1 x.2.1,Tryz.call248⟩
theorem ZHh (a:List ZbX) (b:List ZbX):Zam Tryz.prog 191 [.ag [.hs .no Zay a], .ag [.hs .no Zay b]] (.c (.bool (Zbw a b))) []:=by
 refine bc0 [ZEi] [] [] [] L0 Tryz.func191 (fun hwf=>?_)
 refine Eq.mpr (β:=T7 (pt True∧True∧bif !(Zbw a b) then True∧rB false (Zbw a b) else True∧rB true (Zbw a b))) (by kernel_rfl) ?_
 simp only [SIA,eq_self]
 repeat' (first | apply And.intro | intro _)
 all_goals (first
  | trivial
  | omega
  | exact (ZcB.2 (fun e=>by subst e; simp_all [EQA])).symm
  | (rw [Bool.eq_iff_iff]; simp_all [Prod.ext_iff,EQA]; done)
  | (simp_all [Prod.ext_iff,EQA]; done))
def ZHi:ZaC Tryz.prog:=⟨191,[.s (.list Zay), .s (.list Zay)],fun x=>True,fun x=>.c (.bool (Zbw x.1 x.2.1)),fun _=>[],fun x hx=>ZHh x.1 x.2.1,Tryz.call191⟩
theorem ZHj (a:ZaO) (b:ZaO):Zam Tryz.prog 280 [.ag (cellsOf Zal a), .ag (cellsOf Zal b)] (.c (.bool (Zfu a b))) []:=by
 refine bc0 [] [] [] [] L0 Tryz.func280 (fun hwf=>?_)
 refine Eq.mpr (β:=T8 (bif neI a.1 b.1 then True∧rB false (Zfu a b) else T5 (bif neI a.2.1 b.2.1 then True∧rB false (Zfu a b) else T5 (bif neI a.2.2.1 b.2.2.1 then True∧rB false (Zfu a b) else T5 (bif !eqS a.2.2.2 b.2.2.2 then True∧rB false (Zfu a b) else True∧rB true (Zfu a b)))))) (by kernel_rfl) ?_
 simp only [SIA,eq_self]
 repeat' (first | apply And.intro | intro _)
 all_goals (first
  | trivial
  | omega
  | exact (ZhZ.2 (fun e=>by subst e; simp_all [EQA])).symm
  | (rw [Bool.eq_iff_iff]; simp_all [Prod.ext_iff,EQA]; done)
  | (simp_all [Prod.ext_iff,EQA]; done))
def ZHk:ZaC Tryz.prog:=⟨280,[.s Zal, .s Zal],fun x=>True,fun x=>.c (.bool (Zfu x.1 x.2.1)),fun _=>[],fun x hx=>ZHj x.1 x.2.1,Tryz.call280⟩
def ZEj (a:List ZaO) (b:List ZaO):Nat→List AV→Mem→Zbj
 | 4,tm,M=>⟨Nat,fun y=>(Zcn (ZcC tm [(4, .any),(5, .c (.int .i64 ((y:Nat):Int)))]) 11 16,M),fun y=>(y≤List.length a∧∀ j,j < y→Zaf a j=Zaf b j),fun y=>(List.length a - y)⟩
 | _,_,_=>⟨Unit,fun _=>([],[]),fun _=>False,fun _=>0⟩
theorem ZEk (a:List ZaO) (b:List ZaO):Zam Tryz.prog 250 [.c (.hs .no Zal a), .c (.hs .no Zal b)] (.c (.bool (Zdh a b))) []:=by
 refine bc0 [ZHk] [] [] [] (ZEj a b) Tryz.func250 (fun hwf=>?_)
 refine Eq.mpr (β:=T6 (bif neI a.length b.length then True∧rB false (Zdh a b) else True∧(∃ q:Nat,(q≤a.length∧∀ j,j < q→Zaf a j=Zaf b j)∧lxs [hn Zal a,hn Zal b, .tp [], .tp []] (True∧vI 0 q∧lxs [hn Zal a,ci a.length,hn Zal b,ci b.length, .c (.bool false)] (TN 16 True))∧pt (True))∧∀ y0:Nat,(y0≤a.length∧∀ j,j < y0→Zaf a j=Zaf b j)→T4 (bif ltI y0 a.length then pt (true=true)∧T2 (ix 4 y0 a.length∧T3 (ix 4 y0 b.length∧True∧pt True∧True∧bif !(Zfu (Zaf a y0) (Zaf b y0)) then True∧rB false (Zdh a b) else T3 (∃ y0' : Nat,(y0'≤a.length∧∀ j,j < y0'→Zaf a j=Zaf b j)∧(a.length - y0') < (a.length - y0)∧lxs [hn Zal a,hn Zal b, .tp [], .tp []] (True∧vI (w64 ((y0:Int) + 1)) y0'∧lxs [hn Zal a,ci a.length,hn Zal b,ci b.length, .c (.bool false)] (TN 16 True))∧pt (True)))) else True∧rB true (Zdh a b)))) (by kernel_rfl) ?_
 unfold T2 T3 T4 T6
 simp only [SIA,eq_self]
 have hm0:List.length a≤maxLen:=hwf.1.1
 repeat' (first | apply And.intro | intro _)
 all_goals (first
  | trivial
  | omega
  | exact ⟨0,⟨Nat.zero_le _,Za7⟩,rfl⟩
  | (refine ⟨_,⟨?_,ZaY (And.right (by assumption)) ?_⟩,?_,ZbL ?_⟩ <;> first | omega | (simp_all [Prod.ext_iff,EQA]; done))
  | exact (Zd8.2 (fun e=>by subst e; simp_all [EQA])).symm
  | exact (Zfv.2 (by have hx:=Zcq (t:=Zal) (xs:=a) (ys:=b) (show List.length a=List.length b by omega) (fun j hj=>(by assumption:_≤List.length a∧∀ j,j < _→Zaf a j=Zaf b j).2 j (by have hj' : j < List.length a:=hj; omega)); simp_all [Prod.ext_iff,EQA])).symm
  | (rw [Bool.eq_iff_iff]; simp_all [Prod.ext_iff,EQA]; done)
  | (simp_all [Prod.ext_iff,EQA]; done))
def ZEl:ZaC Tryz.prog:=⟨250,[.v (.list Zal), .v (.list Zal)],fun x=>True,fun x=>.c (.bool (Zdh x.1 x.2.1)),fun _=>[],fun x hx=>ZEk x.1 x.2.1,Tryz.call250⟩
theorem ZEm (a:ZbH) (b:ZbH):Zam Tryz.prog 193 [.ag [.hs .no Zal a.1, .bool a.2.1, .bool a.2.2], .ag [.hs .no Zal b.1, .bool b.2.1, .bool b.2.2]] (.c (.bool (ZbY a b))) []:=by
 refine bc0 [ZEl] [] [] [] L0 Tryz.func193 (fun hwf=>?_)
 refine Eq.mpr (β:=T7 (pt True∧True∧bif !(Zdh a.1 b.1) then True∧rB false (ZbY a b) else T4 (some TypeDesc.bool=some TypeDesc.bool∧bif !eqO a.2.1 b.2.1 then True∧rB false (ZbY a b) else T4 (some TypeDesc.bool=some TypeDesc.bool∧bif !eqO a.2.2 b.2.2 then True∧rB false (ZbY a b) else True∧rB true (ZbY a b))))) (by kernel_rfl) ?_
 simp only [SIA,eq_self]
 repeat' (first | apply And.intro | intro _)
 all_goals (first
  | trivial
  | omega
  | exact (ZcZ.2 (fun e=>by subst e; simp_all [EQA])).symm
  | (rw [Bool.eq_iff_iff]; simp_all [Prod.ext_iff,EQA]; done)
  | (simp_all [Prod.ext_iff,EQA]; done))
def ZEn:ZaC Tryz.prog:=⟨193,[.s Zdz, .s Zdz],fun x=>True,fun x=>.c (.bool (ZbY x.1 x.2.1)),fun _=>[],fun x hx=>ZEm x.1 x.2.1,Tryz.call193⟩
theorem ZJP (a:Zl0) (b:Zl0):Zam Tryz.prog 195 [.ag [.str a.1, .str a.2], .ag [.str b.1, .str b.2]] (.c (.bool (Zj1 a b))) []:=by
 refine bc0 [] [] [] [] L0 Tryz.func195 (fun hwf=>?_)
 refine Eq.mpr (β:=T8 (bif !eqS a.1 b.1 then True∧rB false (Zj1 a b) else T5 (bif !eqS a.2 b.2 then True∧rB false (Zj1 a b) else True∧rB true (Zj1 a b)))) (by kernel_rfl) ?_
 simp only [SIA,eq_self]
 repeat' (first | apply And.intro | intro _)
 all_goals (first
  | trivial
  | omega
  | exact (ZiV.2 (fun e=>by subst e; simp_all [EQA])).symm
  | (rw [Bool.eq_iff_iff]; simp_all [Prod.ext_iff,EQA]; done)
  | (simp_all [Prod.ext_iff,EQA]; done))
def ZJQ:ZaC Tryz.prog:=⟨195,[.s ZkP, .s ZkP],fun x=>True,fun x=>.c (.bool (Zj1 x.1 x.2.1)),fun _=>[],fun x hx=>ZJP x.1 x.2.1,Tryz.call195⟩
theorem ZLQ (a:GIn) (b:GIn):Zam Tryz.prog 194 [.ag [.str a.1, .bool a.2], .ag [.str b.1, .bool b.2]] (.c (.bool (Zn0 a b))) []:=by
 refine bc0 [] [] [] [] L0 Tryz.func194 (fun hwf=>?_)
 refine Eq.mpr (β:=T8 (bif !eqS a.1 b.1 then True∧rB false (Zn0 a b) else T4 (some TypeDesc.bool=some TypeDesc.bool∧bif !eqO a.2 b.2 then True∧rB false (Zn0 a b) else True∧rB true (Zn0 a b)))) (by kernel_rfl) ?_
 simp only [SIA,eq_self]
 repeat' (first | apply And.intro | intro _)
 all_goals (first
  | trivial
  | omega
  | exact (Zj2.2 (fun e=>by subst e; simp_all [EQA])).symm
  | (rw [Bool.eq_iff_iff]; simp_all [Prod.ext_iff,EQA]; done)
  | (simp_all [Prod.ext_iff,EQA]; done))
def ZLR:ZaC Tryz.prog:=⟨194,[.s ZAY, .s ZAY],fun x=>True,fun x=>.c (.bool (Zn0 x.1 x.2.1)),fun _=>[],fun x hx=>ZLQ x.1 x.2.1,Tryz.call194⟩
def Zfo (a:Zad) (b:Zad):Prop:=True∧rB false (Zbk a b)
theorem Zv0 (a:Zad) (b:Zad):Zam Tryz.prog 114 [.ag (cellsOf Zae a), .ag (cellsOf Zae b)] (.c (.bool (Zbk a b))) []:=by
 refine bc0 [ZHi,ZyD,ZEn,ZLR,ZJQ] [] [] [] L0 Tryz.func114 (fun hwf=>?_)
 refine Eq.mpr (β:=T7 (some TypeDesc.bool=some TypeDesc.bool∧bif !eqO a.1 b.1 then Zfo a b else T5 (bif neI a.2.1 b.2.1 then Zfo a b else T5 (bif neI a.2.2.1 b.2.2.1 then Zfo a b else T5 (bif neI a.2.2.2.1 b.2.2.2.1 then Zfo a b else T4 (pt True∧True∧bif !(Zbw a.2.2.2.2.1 b.2.2.2.2.1) then Zfo a b else T4 (pt True∧True∧bif !(ZbK a.2.2.2.2.2.1 b.2.2.2.2.2.1) then Zfo a b else T5 (bif !eqS a.2.2.2.2.2.2.1 b.2.2.2.2.2.2.1 then Zfo a b else T5 (bif !eqS a.2.2.2.2.2.2.2.1 b.2.2.2.2.2.2.2.1 then Zfo a b else T4 (pt True∧True∧bif !(ZbY a.2.2.2.2.2.2.2.2.1 b.2.2.2.2.2.2.2.2.1) then Zfo a b else T4 (pt True∧True∧bif !(Zn0 a.2.2.2.2.2.2.2.2.2.1 b.2.2.2.2.2.2.2.2.2.1) then Zfo a b else T4 (pt True∧True∧bif !(Zj1 a.2.2.2.2.2.2.2.2.2.2.1 b.2.2.2.2.2.2.2.2.2.2.1) then Zfo a b else T5 (bif neI a.2.2.2.2.2.2.2.2.2.2.2 b.2.2.2.2.2.2.2.2.2.2.2 then Zfo a b else True∧rB true (Zbk a b)))))))))))))) (by kernel_rfl) ?_
 unfold Zfo T4 T5 T7
 simp only [SIA,eq_self]
 repeat' (first | apply And.intro | intro _)
 all_goals (first
  | trivial
  | omega
  | exact (Zfk.2 (fun e=>by subst e; simp_all [EQA])).symm
  | (rw [Bool.eq_iff_iff]; simp_all [Prod.ext_iff,EQA]; done)
  | (simp_all [Prod.ext_iff,EQA]; done))
def Zv1:ZaC Tryz.prog:=⟨114,[.s Zae, .s Zae],fun x=>True,fun x=>.c (.bool (Zbk x.1 x.2.1)),fun _=>[],fun x hx=>Zv0 x.1 x.2.1,Tryz.call114⟩
def ZsI (a:List Zad) (b:List Zad):Nat→List AV→Mem→Zbj
 | 4,tm,M=>⟨Nat,fun y=>(Zcn (ZcC tm [(4, .any),(5, .c (.int .i64 ((y:Nat):Int)))]) 11 16,M),fun y=>(y≤List.length a∧∀ j,j < y→Zaa a j=Zaa b j),fun y=>(List.length a - y)⟩
 | _,_,_=>⟨Unit,fun _=>([],[]),fun _=>False,fun _=>0⟩
theorem ZsJ (a:List Zad) (b:List Zad):Zam Tryz.prog 44 [.c (.hs .no Zae a), .c (.hs .no Zae b)] (.c (.bool (ZdE a b))) []:=by
 refine bc0 [Zv1] [] [] [] (ZsI a b) Tryz.func44 (fun hwf=>?_)
 refine Eq.mpr (β:=T6 (bif neI a.length b.length then True∧rB false (ZdE a b) else True∧(∃ q:Nat,(q≤a.length∧∀ j,j < q→Zaa a j=Zaa b j)∧lxs [hn Zae a,hn Zae b, .tp [], .tp []] (True∧vI 0 q∧lxs [hn Zae a,ci a.length,hn Zae b,ci b.length, .c (.bool false)] (TN 16 True))∧pt (True))∧∀ y0:Nat,(y0≤a.length∧∀ j,j < y0→Zaa a j=Zaa b j)→T4 (bif ltI y0 a.length then pt (true=true)∧T2 (ix 17 y0 a.length∧T3 (ix 17 y0 b.length∧True∧pt True∧True∧bif !(Zbk (Zaa a y0) (Zaa b y0)) then True∧rB false (ZdE a b) else T3 (∃ y0' : Nat,(y0'≤a.length∧∀ j,j < y0'→Zaa a j=Zaa b j)∧(a.length - y0') < (a.length - y0)∧lxs [hn Zae a,hn Zae b, .tp [], .tp []] (True∧vI (w64 ((y0:Int) + 1)) y0'∧lxs [hn Zae a,ci a.length,hn Zae b,ci b.length, .c (.bool false)] (TN 16 True))∧pt (True)))) else True∧rB true (ZdE a b)))) (by kernel_rfl) ?_
 unfold T2 T3 T4 T6
 simp only [SIA,eq_self]
 have hm0:List.length a≤maxLen:=hwf.1.1
 repeat' (first | apply And.intro | intro _)
 all_goals (first
  | trivial
  | omega
  | exact ⟨0,⟨Nat.zero_le _,Za7⟩,rfl⟩
  | (refine ⟨_,⟨?_,ZaY (And.right (by assumption)) ?_⟩,?_,ZbL ?_⟩ <;> first | omega | (simp_all [Prod.ext_iff,EQA]; done))
  | exact (ZeS.2 (fun e=>by subst e; simp_all [EQA])).symm
  | exact (Zfl.2 (by have hx:=Zcq (t:=Zae) (xs:=a) (ys:=b) (show List.length a=List.length b by omega) (fun j hj=>(by assumption:_≤List.length a∧∀ j,j < _→Zaa a j=Zaa b j).2 j (by have hj' : j < List.length a:=hj; omega)); simp_all [Prod.ext_iff,EQA])).symm
  | (rw [Bool.eq_iff_iff]; simp_all [Prod.ext_iff,EQA]; done)
  | (simp_all [Prod.ext_iff,EQA]; done))
def ZsK:ZaC Tryz.prog:=⟨44,[.v (.list Zae), .v (.list Zae)],fun x=>True,fun x=>.c (.bool (ZdE x.1 x.2.1)),fun _=>[],fun x hx=>ZsJ x.1 x.2.1,Tryz.call44⟩
theorem ZyG (a:ZaE) (b:ZaE):Zam Tryz.prog 13 [.ag (cellsOf ZaV a), .ag (cellsOf ZaV b)] (.c (.bool (ZbV a b))) []:=by
 refine bc0 [ZEf,ZsK] [] [] [] L0 Tryz.func13 (fun hwf=>?_)
 refine Eq.mpr (β:=T7 (pt True∧True∧bif !(ZeR a.1 b.1) then True∧rB false (ZbV a b) else T4 (pt True∧True∧bif !(ZdE a.2 b.2) then True∧rB false (ZbV a b) else True∧rB true (ZbV a b)))) (by kernel_rfl) ?_
 simp only [SIA,eq_self]
 repeat' (first | apply And.intro | intro _)
 all_goals (first
  | trivial
  | omega
  | exact (Zf1.2 (fun e=>by subst e; simp_all [EQA])).symm
  | (rw [Bool.eq_iff_iff]; simp_all [Prod.ext_iff,EQA]; done)
  | (simp_all [Prod.ext_iff,EQA]; done))
def Zkf:ZaC Tryz.prog:=⟨13,[.s ZaV, .s ZaV],fun x=>True,fun x=>.c (.bool (ZbV x.1 x.2.1)),fun _=>[],fun x hx=>ZyG x.1 x.2.1,Tryz.call13⟩
end Go.Proofs.YtkompmgleojmlaaGreat
