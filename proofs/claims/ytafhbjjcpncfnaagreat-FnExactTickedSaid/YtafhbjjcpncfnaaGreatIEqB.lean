import Derived.Test.YtafhbjjcpncfnaaGreatIBmTy
set_option linter.unusedSimpArgs false
set_option linter.unusedVariables false
set_option maxRecDepth 100000
set_option maxHeartbeats 4000000
namespace Go.Proofs.YtafhbjjcpncfnaaGreat
open Go.ChangeShapes Go.WideShapes Go.ChangeAt Go.RowKit Go.Joins Go.Deep
open GoRep (rep bulk)
def ZvO (a:List ByteArray) (b:List ByteArray):Nat→List AV→Mem→Zbd
 | 4,tm,M=>⟨Nat,fun y=>(Zcf (Zct tm [(4, .any),(5, .c (.int .i64 ((y:Nat):Int)))]) 11 15,M),fun y=>(y≤List.length a∧∀ j,j < y→ZaF a j=ZaF b j),fun y=>(List.length a - y)⟩
 | _,_,_=>⟨Unit,fun _=>([],[]),fun _=>False,fun _=>0⟩
theorem ZvP (a:List ByteArray) (b:List ByteArray):Zao Tryz.prog 243 [.c (.hs .no Za1 a), .c (.hs .no Za1 b)] (.c (.bool (ZbO a b))) []:=by
 refine bc0 [] [] [] [] (ZvO a b) Tryz.func243 (fun hwf=>?_)
 refine Eq.mpr (β:=T6 (bif neI a.length b.length then True∧rB false (ZbO a b) else True∧(∃ q:Nat,(q≤a.length∧∀ j,j < q→ZaF a j=ZaF b j)∧lxs [hn Za1 a,hn Za1 b, .tp [], .tp []] (True∧vI 0 q∧lxs [hn Za1 a,ci a.length,hn Za1 b,ci b.length, .c (.bool false)] (TN 15 True))∧pt (True))∧∀ y0:Nat,(y0≤a.length∧∀ j,j < y0→ZaF a j=ZaF b j)→T4 (bif ltI y0 a.length then pt (true=true)∧T2 (ix 1 y0 a.length∧T3 (ix 1 y0 b.length∧T2 (bif !eqS (ZaF a y0) (ZaF b y0) then True∧rB false (ZbO a b) else T3 (∃ y0' : Nat,(y0'≤a.length∧∀ j,j < y0'→ZaF a j=ZaF b j)∧(a.length - y0') < (a.length - y0)∧lxs [hn Za1 a,hn Za1 b, .tp [], .tp []] (True∧vI (w64 ((y0:Int) + 1)) y0'∧lxs [hn Za1 a,ci a.length,hn Za1 b,ci b.length, .c (.bool false)] (TN 15 True))∧pt (True))))) else True∧rB true (ZbO a b)))) (by kernel_rfl) ?_
 unfold T2 T3 T4 T6
 simp only [SIA,eq_self]
 have hm0:List.length a≤maxLen:=hwf.1.1
 repeat' (first | apply And.intro | intro _)
 all_goals (first
  | trivial
  | omega
  | exact ⟨0,⟨Nat.zero_le _,Za3⟩,rfl⟩
  | (refine ⟨_,⟨?_,ZaU (And.right (by assumption)) ?_⟩,?_,Zbs ?_⟩ <;> first | omega | (simp_all [Prod.ext_iff,EQA]; done))
  | exact (Zcr.2 (fun e=>by subst e; simp_all [EQA])).symm
  | exact (ZdM.2 (by have hx:=Zch (t:=Za1) (xs:=a) (ys:=b) (show List.length a=List.length b by omega) (fun j hj=>(by assumption:_≤List.length a∧∀ j,j < _→ZaF a j=ZaF b j).2 j (by have hj' : j < List.length a:=hj; omega)); simp_all [Prod.ext_iff,EQA])).symm
  | (rw [Bool.eq_iff_iff]; simp_all [Prod.ext_iff,EQA]; done)
  | (simp_all [Prod.ext_iff,EQA]; done))
def ZvQ:ZaE Tryz.prog:=⟨243,[.v (.list Za1), .v (.list Za1)],fun x=>True,fun x=>.c (.bool (ZbO x.1 x.2.1)),fun _=>[],fun x hx=>ZvP x.1 x.2.1,Tryz.call243⟩
theorem ZDU (a:ZaW) (b:ZaW):Zao Tryz.prog 228 [.ag [.int .i64 a.1, .hs .no Za1 a.2.1, .int .i64 a.2.2], .ag [.int .i64 b.1, .hs .no Za1 b.2.1, .int .i64 b.2.2]] (.c (.bool (ZcF a b))) []:=by
 refine bc0 [ZvQ] [] [] [] L0 Tryz.func228 (fun hwf=>?_)
 refine Eq.mpr (β:=T8 (bif neI a.1 b.1 then True∧rB false (ZcF a b) else T4 (pt True∧True∧bif !(ZbO a.2.1 b.2.1) then True∧rB false (ZcF a b) else T5 (bif neI a.2.2 b.2.2 then True∧rB false (ZcF a b) else True∧rB true (ZcF a b))))) (by kernel_rfl) ?_
 simp only [SIA,eq_self]
 repeat' (first | apply And.intro | intro _)
 all_goals (first
  | trivial
  | omega
  | exact (Zg8.2 (fun e=>by subst e; simp_all [EQA])).symm
  | (rw [Bool.eq_iff_iff]; simp_all [Prod.ext_iff,EQA]; done)
  | (simp_all [Prod.ext_iff,EQA]; done))
def ZDV:ZaE Tryz.prog:=⟨228,[.s Zak, .s Zak],fun x=>True,fun x=>.c (.bool (ZcF x.1 x.2.1)),fun _=>[],fun x hx=>ZDU x.1 x.2.1,Tryz.call228⟩
def ZyB (a:List ZaW) (b:List ZaW):Nat→List AV→Mem→Zbd
 | 4,tm,M=>⟨Nat,fun y=>(Zcf (Zct tm [(4, .any),(5, .c (.int .i64 ((y:Nat):Int)))]) 11 16,M),fun y=>(y≤List.length a∧∀ j,j < y→Zas a j=Zas b j),fun y=>(List.length a - y)⟩
 | _,_,_=>⟨Unit,fun _=>([],[]),fun _=>False,fun _=>0⟩
theorem ZyC (a:List ZaW) (b:List ZaW):Zao Tryz.prog 190 [.c (.hs .no Zak a), .c (.hs .no Zak b)] (.c (.bool (ZeF a b))) []:=by
 refine bc0 [ZDV] [] [] [] (ZyB a b) Tryz.func190 (fun hwf=>?_)
 refine Eq.mpr (β:=T6 (bif neI a.length b.length then True∧rB false (ZeF a b) else True∧(∃ q:Nat,(q≤a.length∧∀ j,j < q→Zas a j=Zas b j)∧lxs [hn Zak a,hn Zak b, .tp [], .tp []] (True∧vI 0 q∧lxs [hn Zak a,ci a.length,hn Zak b,ci b.length, .c (.bool false)] (TN 16 True))∧pt (True))∧∀ y0:Nat,(y0≤a.length∧∀ j,j < y0→Zas a j=Zas b j)→T4 (bif ltI y0 a.length then pt (true=true)∧T2 (ix 3 y0 a.length∧T3 (ix 3 y0 b.length∧True∧pt True∧True∧bif !(ZcF (Zas a y0) (Zas b y0)) then True∧rB false (ZeF a b) else T3 (∃ y0' : Nat,(y0'≤a.length∧∀ j,j < y0'→Zas a j=Zas b j)∧(a.length - y0') < (a.length - y0)∧lxs [hn Zak a,hn Zak b, .tp [], .tp []] (True∧vI (w64 ((y0:Int) + 1)) y0'∧lxs [hn Zak a,ci a.length,hn Zak b,ci b.length, .c (.bool false)] (TN 16 True))∧pt (True)))) else True∧rB true (ZeF a b)))) (by kernel_rfl) ?_
 unfold T2 T3 T4 T6
 simp only [SIA,eq_self]
 have hm0:List.length a≤maxLen:=hwf.1.1
 repeat' (first | apply And.intro | intro _)
 all_goals (first
  | trivial
  | omega
  | exact ⟨0,⟨Nat.zero_le _,Za3⟩,rfl⟩
  | (refine ⟨_,⟨?_,ZaU (And.right (by assumption)) ?_⟩,?_,Zbs ?_⟩ <;> first | omega | (simp_all [Prod.ext_iff,EQA]; done))
  | exact (ZfW.2 (fun e=>by subst e; simp_all [EQA])).symm
  | exact (Zg9.2 (by have hx:=Zch (t:=Zak) (xs:=a) (ys:=b) (show List.length a=List.length b by omega) (fun j hj=>(by assumption:_≤List.length a∧∀ j,j < _→Zas a j=Zas b j).2 j (by have hj' : j < List.length a:=hj; omega)); simp_all [Prod.ext_iff,EQA])).symm
  | (rw [Bool.eq_iff_iff]; simp_all [Prod.ext_iff,EQA]; done)
  | (simp_all [Prod.ext_iff,EQA]; done))
def ZyD:ZaE Tryz.prog:=⟨190,[.v (.list Zak), .v (.list Zak)],fun x=>True,fun x=>.c (.bool (ZeF x.1 x.2.1)),fun _=>[],fun x hx=>ZyC x.1 x.2.1,Tryz.call190⟩
theorem ZyE (a:Zb1) (b:Zb1):Zao Tryz.prog 133 [.ag [.bool a.1, .hs .no Zak a.2], .ag [.bool b.1, .hs .no Zak b.2]] (.c (.bool (ZbK a b))) []:=by
 refine bc0 [ZyD] [] [] [] L0 Tryz.func133 (fun hwf=>?_)
 refine Eq.mpr (β:=T7 (some TypeDesc.bool=some TypeDesc.bool∧bif !eqO a.1 b.1 then True∧rB false (ZbK a b) else T4 (pt True∧True∧bif !(ZeF a.2 b.2) then True∧rB false (ZbK a b) else True∧rB true (ZbK a b)))) (by kernel_rfl) ?_
 simp only [SIA,eq_self]
 repeat' (first | apply And.intro | intro _)
 all_goals (first
  | trivial
  | omega
  | exact (Zey.2 (fun e=>by subst e; simp_all [EQA])).symm
  | (rw [Bool.eq_iff_iff]; simp_all [Prod.ext_iff,EQA]; done)
  | (simp_all [Prod.ext_iff,EQA]; done))
def ZyF:ZaE Tryz.prog:=⟨133,[.s Zdd, .s Zdd],fun x=>True,fun x=>.c (.bool (ZbK x.1 x.2.1)),fun _=>[],fun x hx=>ZyE x.1 x.2.1,Tryz.call133⟩
theorem ZJk (a:Zdr) (b:Zdr):Zao Tryz.prog 226 [.ag [.int .i64 a.1, .int .i64 a.2.1, .str a.2.2], .ag [.int .i64 b.1, .int .i64 b.2.1, .str b.2.2]] (.c (.bool (ZiW a b))) []:=by
 refine bc0 [] [] [] [] L0 Tryz.func226 (fun hwf=>?_)
 refine Eq.mpr (β:=T8 (bif neI a.1 b.1 then True∧rB false (ZiW a b) else T5 (bif neI a.2.1 b.2.1 then True∧rB false (ZiW a b) else T5 (bif !eqS a.2.2 b.2.2 then True∧rB false (ZiW a b) else True∧rB true (ZiW a b))))) (by kernel_rfl) ?_
 simp only [SIA,eq_self]
 repeat' (first | apply And.intro | intro _)
 all_goals (first
  | trivial
  | omega
  | exact (ZiX.2 (fun e=>by subst e; simp_all [EQA])).symm
  | (rw [Bool.eq_iff_iff]; simp_all [Prod.ext_iff,EQA]; done)
  | (simp_all [Prod.ext_iff,EQA]; done))
def ZJl:ZaE Tryz.prog:=⟨226,[.s ZaR, .s ZaR],fun x=>True,fun x=>.c (.bool (ZiW x.1 x.2.1)),fun _=>[],fun x hx=>ZJk x.1 x.2.1,Tryz.call226⟩
def ZGT (a:List Zdr) (b:List Zdr):Nat→List AV→Mem→Zbd
 | 4,tm,M=>⟨Nat,fun y=>(Zcf (Zct tm [(4, .any),(5, .c (.int .i64 ((y:Nat):Int)))]) 11 16,M),fun y=>(y≤List.length a∧∀ j,j < y→ZaG a j=ZaG b j),fun y=>(List.length a - y)⟩
 | _,_,_=>⟨Unit,fun _=>([],[]),fun _=>False,fun _=>0⟩
theorem ZGU (a:List Zdr) (b:List Zdr):Zao Tryz.prog 188 [.c (.hs .no ZaR a), .c (.hs .no ZaR b)] (.c (.bool (Zd0 a b))) []:=by
 refine bc0 [ZJl] [] [] [] (ZGT a b) Tryz.func188 (fun hwf=>?_)
 refine Eq.mpr (β:=T6 (bif neI a.length b.length then True∧rB false (Zd0 a b) else True∧(∃ q:Nat,(q≤a.length∧∀ j,j < q→ZaG a j=ZaG b j)∧lxs [hn ZaR a,hn ZaR b, .tp [], .tp []] (True∧vI 0 q∧lxs [hn ZaR a,ci a.length,hn ZaR b,ci b.length, .c (.bool false)] (TN 16 True))∧pt (True))∧∀ y0:Nat,(y0≤a.length∧∀ j,j < y0→ZaG a j=ZaG b j)→T4 (bif ltI y0 a.length then pt (true=true)∧T2 (ix 3 y0 a.length∧T3 (ix 3 y0 b.length∧True∧pt True∧True∧bif !(ZiW (ZaG a y0) (ZaG b y0)) then True∧rB false (Zd0 a b) else T3 (∃ y0' : Nat,(y0'≤a.length∧∀ j,j < y0'→ZaG a j=ZaG b j)∧(a.length - y0') < (a.length - y0)∧lxs [hn ZaR a,hn ZaR b, .tp [], .tp []] (True∧vI (w64 ((y0:Int) + 1)) y0'∧lxs [hn ZaR a,ci a.length,hn ZaR b,ci b.length, .c (.bool false)] (TN 16 True))∧pt (True)))) else True∧rB true (Zd0 a b)))) (by kernel_rfl) ?_
 unfold T2 T3 T4 T6
 simp only [SIA,eq_self]
 have hm0:List.length a≤maxLen:=hwf.1.1
 repeat' (first | apply And.intro | intro _)
 all_goals (first
  | trivial
  | omega
  | exact ⟨0,⟨Nat.zero_le _,Za3⟩,rfl⟩
  | (refine ⟨_,⟨?_,ZaU (And.right (by assumption)) ?_⟩,?_,Zbs ?_⟩ <;> first | omega | (simp_all [Prod.ext_iff,EQA]; done))
  | exact (Zes.2 (fun e=>by subst e; simp_all [EQA])).symm
  | exact (Zgo.2 (by have hx:=Zch (t:=ZaR) (xs:=a) (ys:=b) (show List.length a=List.length b by omega) (fun j hj=>(by assumption:_≤List.length a∧∀ j,j < _→ZaG a j=ZaG b j).2 j (by have hj' : j < List.length a:=hj; omega)); simp_all [Prod.ext_iff,EQA])).symm
  | (rw [Bool.eq_iff_iff]; simp_all [Prod.ext_iff,EQA]; done)
  | (simp_all [Prod.ext_iff,EQA]; done))
def ZGV:ZaE Tryz.prog:=⟨188,[.v (.list ZaR), .v (.list ZaR)],fun x=>True,fun x=>.c (.bool (Zd0 x.1 x.2.1)),fun _=>[],fun x hx=>ZGU x.1 x.2.1,Tryz.call188⟩
theorem ZJm (a:ZaO) (b:ZaO):Zao Tryz.prog 130 [.ag (cellsOf Zaj a), .ag (cellsOf Zaj b)] (.c (.bool (Zcq a b))) []:=by
 refine bc0 [ZGV] [] [] [] L0 Tryz.func130 (fun hwf=>?_)
 refine Eq.mpr (β:=T8 (bif !eqS a.1 b.1 then True∧rB false (Zcq a b) else T5 (bif neI a.2.1 b.2.1 then True∧rB false (Zcq a b) else T5 (bif neI a.2.2.1 b.2.2.1 then True∧rB false (Zcq a b) else T4 (pt True∧True∧bif !(Zd0 a.2.2.2 b.2.2.2) then True∧rB false (Zcq a b) else True∧rB true (Zcq a b)))))) (by kernel_rfl) ?_
 simp only [SIA,eq_self]
 repeat' (first | apply And.intro | intro _)
 all_goals (first
  | trivial
  | omega
  | exact (ZcL.2 (fun e=>by subst e; simp_all [EQA])).symm
  | (rw [Bool.eq_iff_iff]; simp_all [Prod.ext_iff,EQA]; done)
  | (simp_all [Prod.ext_iff,EQA]; done))
def ZJn:ZaE Tryz.prog:=⟨130,[.s Zaj, .s Zaj],fun x=>True,fun x=>.c (.bool (Zcq x.1 x.2.1)),fun _=>[],fun x hx=>ZJm x.1 x.2.1,Tryz.call130⟩
def ZGW (a:List ZaO) (b:List ZaO):Nat→List AV→Mem→Zbd
 | 4,tm,M=>⟨Nat,fun y=>(Zcf (Zct tm [(4, .any),(5, .c (.int .i64 ((y:Nat):Int)))]) 11 16,M),fun y=>(y≤List.length a∧∀ j,j < y→Zab a j=Zab b j),fun y=>(List.length a - y)⟩
 | _,_,_=>⟨Unit,fun _=>([],[]),fun _=>False,fun _=>0⟩
theorem ZGX (a:List ZaO) (b:List ZaO):Zao Tryz.prog 51 [.c (.hs .no Zaj a), .c (.hs .no Zaj b)] (.c (.bool (Zca a b))) []:=by
 refine bc0 [ZJn] [] [] [] (ZGW a b) Tryz.func51 (fun hwf=>?_)
 refine Eq.mpr (β:=T6 (bif neI a.length b.length then True∧rB false (Zca a b) else True∧(∃ q:Nat,(q≤a.length∧∀ j,j < q→Zab a j=Zab b j)∧lxs [hn Zaj a,hn Zaj b, .tp [], .tp []] (True∧vI 0 q∧lxs [hn Zaj a,ci a.length,hn Zaj b,ci b.length, .c (.bool false)] (TN 16 True))∧pt (True))∧∀ y0:Nat,(y0≤a.length∧∀ j,j < y0→Zab a j=Zab b j)→T4 (bif ltI y0 a.length then pt (true=true)∧T2 (ix 4 y0 a.length∧T3 (ix 4 y0 b.length∧True∧pt True∧True∧bif !(Zcq (Zab a y0) (Zab b y0)) then True∧rB false (Zca a b) else T3 (∃ y0' : Nat,(y0'≤a.length∧∀ j,j < y0'→Zab a j=Zab b j)∧(a.length - y0') < (a.length - y0)∧lxs [hn Zaj a,hn Zaj b, .tp [], .tp []] (True∧vI (w64 ((y0:Int) + 1)) y0'∧lxs [hn Zaj a,ci a.length,hn Zaj b,ci b.length, .c (.bool false)] (TN 16 True))∧pt (True)))) else True∧rB true (Zca a b)))) (by kernel_rfl) ?_
 unfold T2 T3 T4 T6
 simp only [SIA,eq_self]
 have hm0:List.length a≤maxLen:=hwf.1.1
 repeat' (first | apply And.intro | intro _)
 all_goals (first
  | trivial
  | omega
  | exact ⟨0,⟨Nat.zero_le _,Za3⟩,rfl⟩
  | (refine ⟨_,⟨?_,ZaU (And.right (by assumption)) ?_⟩,?_,Zbs ?_⟩ <;> first | omega | (simp_all [Prod.ext_iff,EQA]; done))
  | exact (eqT_LBox_false.2 (fun e=>by subst e; simp_all [EQA])).symm
  | exact (Zdg.2 (by have hx:=Zch (t:=Zaj) (xs:=a) (ys:=b) (show List.length a=List.length b by omega) (fun j hj=>(by assumption:_≤List.length a∧∀ j,j < _→Zab a j=Zab b j).2 j (by have hj' : j < List.length a:=hj; omega)); simp_all [Prod.ext_iff,EQA])).symm
  | (rw [Bool.eq_iff_iff]; simp_all [Prod.ext_iff,EQA]; done)
  | (simp_all [Prod.ext_iff,EQA]; done))
def ZGY:ZaE Tryz.prog:=⟨51,[.v (.list Zaj), .v (.list Zaj)],fun x=>True,fun x=>.c (.bool (Zca x.1 x.2.1)),fun _=>[],fun x hx=>ZGX x.1 x.2.1,Tryz.call51⟩
theorem ZyG (a:ZaA) (b:ZaA):Zao Tryz.prog 131 [.ag (cellsOf Zag a), .ag (cellsOf Zag b)] (.c (.bool (Zc6 a b))) []:=by
 refine bc0 [] [] [] [] L0 Tryz.func131 (fun hwf=>?_)
 refine Eq.mpr (β:=T8 (bif neI a.1 b.1 then True∧rB false (Zc6 a b) else T5 (bif neI a.2.1 b.2.1 then True∧rB false (Zc6 a b) else T5 (bif neI a.2.2.1 b.2.2.1 then True∧rB false (Zc6 a b) else T5 (bif neI a.2.2.2.1 b.2.2.2.1 then True∧rB false (Zc6 a b) else T5 (bif !eqS a.2.2.2.2.1 b.2.2.2.2.1 then True∧rB false (Zc6 a b) else T5 (bif !eqS a.2.2.2.2.2 b.2.2.2.2.2 then True∧rB false (Zc6 a b) else True∧rB true (Zc6 a b)))))))) (by kernel_rfl) ?_
 unfold T5 T8
 simp only [SIA,eq_self]
 repeat' (first | apply And.intro | intro _)
 all_goals (first
  | trivial
  | omega
  | exact (ZfX.2 (fun e=>by subst e; simp_all [EQA])).symm
  | (rw [Bool.eq_iff_iff]; simp_all [Prod.ext_iff,EQA]; done)
  | (simp_all [Prod.ext_iff,EQA]; done))
def ZyH:ZaE Tryz.prog:=⟨131,[.s Zag, .s Zag],fun x=>True,fun x=>.c (.bool (Zc6 x.1 x.2.1)),fun _=>[],fun x hx=>ZyG x.1 x.2.1,Tryz.call131⟩
def ZvR (a:List ZaA) (b:List ZaA):Nat→List AV→Mem→Zbd
 | 4,tm,M=>⟨Nat,fun y=>(Zcf (Zct tm [(4, .any),(5, .c (.int .i64 ((y:Nat):Int)))]) 11 16,M),fun y=>(y≤List.length a∧∀ j,j < y→Zac a j=Zac b j),fun y=>(List.length a - y)⟩
 | _,_,_=>⟨Unit,fun _=>([],[]),fun _=>False,fun _=>0⟩
theorem ZvS (a:List ZaA) (b:List ZaA):Zao Tryz.prog 52 [.c (.hs .no Zag a), .c (.hs .no Zag b)] (.c (.bool (Zea a b))) []:=by
 refine bc0 [ZyH] [] [] [] (ZvR a b) Tryz.func52 (fun hwf=>?_)
 refine Eq.mpr (β:=T6 (bif neI a.length b.length then True∧rB false (Zea a b) else True∧(∃ q:Nat,(q≤a.length∧∀ j,j < q→Zac a j=Zac b j)∧lxs [hn Zag a,hn Zag b, .tp [], .tp []] (True∧vI 0 q∧lxs [hn Zag a,ci a.length,hn Zag b,ci b.length, .c (.bool false)] (TN 16 True))∧pt (True))∧∀ y0:Nat,(y0≤a.length∧∀ j,j < y0→Zac a j=Zac b j)→T4 (bif ltI y0 a.length then pt (true=true)∧T2 (ix 6 y0 a.length∧T3 (ix 6 y0 b.length∧True∧pt True∧True∧bif !(Zc6 (Zac a y0) (Zac b y0)) then True∧rB false (Zea a b) else T3 (∃ y0' : Nat,(y0'≤a.length∧∀ j,j < y0'→Zac a j=Zac b j)∧(a.length - y0') < (a.length - y0)∧lxs [hn Zag a,hn Zag b, .tp [], .tp []] (True∧vI (w64 ((y0:Int) + 1)) y0'∧lxs [hn Zag a,ci a.length,hn Zag b,ci b.length, .c (.bool false)] (TN 16 True))∧pt (True)))) else True∧rB true (Zea a b)))) (by kernel_rfl) ?_
 unfold T2 T3 T4 T6
 simp only [SIA,eq_self]
 have hm0:List.length a≤maxLen:=hwf.1.1
 repeat' (first | apply And.intro | intro _)
 all_goals (first
  | trivial
  | omega
  | exact ⟨0,⟨Nat.zero_le _,Za3⟩,rfl⟩
  | (refine ⟨_,⟨?_,ZaU (And.right (by assumption)) ?_⟩,?_,Zbs ?_⟩ <;> first | omega | (simp_all [Prod.ext_iff,EQA]; done))
  | exact (Zfm.2 (fun e=>by subst e; simp_all [EQA])).symm
  | exact (ZfY.2 (by have hx:=Zch (t:=Zag) (xs:=a) (ys:=b) (show List.length a=List.length b by omega) (fun j hj=>(by assumption:_≤List.length a∧∀ j,j < _→Zac a j=Zac b j).2 j (by have hj' : j < List.length a:=hj; omega)); simp_all [Prod.ext_iff,EQA])).symm
  | (rw [Bool.eq_iff_iff]; simp_all [Prod.ext_iff,EQA]; done)
  | (simp_all [Prod.ext_iff,EQA]; done))
def ZvT:ZaE Tryz.prog:=⟨52,[.v (.list Zag), .v (.list Zag)],fun x=>True,fun x=>.c (.bool (Zea x.1 x.2.1)),fun _=>[],fun x hx=>ZvS x.1 x.2.1,Tryz.call52⟩
theorem ZDW (a:ZaI) (b:ZaI):Zao Tryz.prog 24 [.ag (cellsOf ZbJ a), .ag (cellsOf ZbJ b)] (.c (.bool (ZeR a b))) []:=by
 refine bc0 [ZGY,ZvT] [] [] [] L0 Tryz.func24 (fun hwf=>?_)
 refine Eq.mpr (β:=T7 (pt True∧True∧bif !(Zca a.1 b.1) then True∧rB false (ZeR a b) else T4 (pt True∧True∧bif !(Zea a.2.1 b.2.1) then True∧rB false (ZeR a b) else T5 (bif neI a.2.2 b.2.2 then True∧rB false (ZeR a b) else True∧rB true (ZeR a b))))) (by kernel_rfl) ?_
 simp only [SIA,eq_self]
 repeat' (first | apply And.intro | intro _)
 all_goals (first
  | trivial
  | omega
  | exact (Zhb.2 (fun e=>by subst e; simp_all [EQA])).symm
  | (rw [Bool.eq_iff_iff]; simp_all [Prod.ext_iff,EQA]; done)
  | (simp_all [Prod.ext_iff,EQA]; done))
def ZDX:ZaE Tryz.prog:=⟨24,[.s ZbJ, .s ZbJ],fun x=>True,fun x=>.c (.bool (ZeR x.1 x.2.1)),fun _=>[],fun x hx=>ZDW x.1 x.2.1,Tryz.call24⟩
theorem ZGZ (a:ZbT) (b:ZbT):Zao Tryz.prog 227 [.ag [.int .i64 a.1, .int .i64 a.2], .ag [.int .i64 b.1, .int .i64 b.2]] (.c (.bool (ZhC a b))) []:=by
 refine bc0 [] [] [] [] L0 Tryz.func227 (fun hwf=>?_)
 refine Eq.mpr (β:=T8 (bif neI a.1 b.1 then True∧rB false (ZhC a b) else T5 (bif neI a.2 b.2 then True∧rB false (ZhC a b) else True∧rB true (ZhC a b)))) (by kernel_rfl) ?_
 simp only [SIA,eq_self]
 repeat' (first | apply And.intro | intro _)
 all_goals (first
  | trivial
  | omega
  | exact (ZhX.2 (fun e=>by subst e; simp_all [EQA])).symm
  | (rw [Bool.eq_iff_iff]; simp_all [Prod.ext_iff,EQA]; done)
  | (simp_all [Prod.ext_iff,EQA]; done))
def ZG0:ZaE Tryz.prog:=⟨227,[.s Zay, .s Zay],fun x=>True,fun x=>.c (.bool (ZhC x.1 x.2.1)),fun _=>[],fun x hx=>ZGZ x.1 x.2.1,Tryz.call227⟩
def ZDY (a:List ZbT) (b:List ZbT):Nat→List AV→Mem→Zbd
 | 4,tm,M=>⟨Nat,fun y=>(Zcf (Zct tm [(4, .any),(5, .c (.int .i64 ((y:Nat):Int)))]) 11 16,M),fun y=>(y≤List.length a∧∀ j,j < y→ZaV a j=ZaV b j),fun y=>(List.length a - y)⟩
 | _,_,_=>⟨Unit,fun _=>([],[]),fun _=>False,fun _=>0⟩
theorem ZDZ (a:List ZbT) (b:List ZbT):Zao Tryz.prog 189 [.c (.hs .no Zay a), .c (.hs .no Zay b)] (.c (.bool (Zbt a b))) []:=by
 refine bc0 [ZG0] [] [] [] (ZDY a b) Tryz.func189 (fun hwf=>?_)
 refine Eq.mpr (β:=T6 (bif neI a.length b.length then True∧rB false (Zbt a b) else True∧(∃ q:Nat,(q≤a.length∧∀ j,j < q→ZaV a j=ZaV b j)∧lxs [hn Zay a,hn Zay b, .tp [], .tp []] (True∧vI 0 q∧lxs [hn Zay a,ci a.length,hn Zay b,ci b.length, .c (.bool false)] (TN 16 True))∧pt (True))∧∀ y0:Nat,(y0≤a.length∧∀ j,j < y0→ZaV a j=ZaV b j)→T4 (bif ltI y0 a.length then pt (true=true)∧T2 (ix 2 y0 a.length∧T3 (ix 2 y0 b.length∧True∧pt True∧True∧bif !(ZhC (ZaV a y0) (ZaV b y0)) then True∧rB false (Zbt a b) else T3 (∃ y0' : Nat,(y0'≤a.length∧∀ j,j < y0'→ZaV a j=ZaV b j)∧(a.length - y0') < (a.length - y0)∧lxs [hn Zay a,hn Zay b, .tp [], .tp []] (True∧vI (w64 ((y0:Int) + 1)) y0'∧lxs [hn Zay a,ci a.length,hn Zay b,ci b.length, .c (.bool false)] (TN 16 True))∧pt (True)))) else True∧rB true (Zbt a b)))) (by kernel_rfl) ?_
 unfold T2 T3 T4 T6
 simp only [SIA,eq_self]
 have hm0:List.length a≤maxLen:=hwf.1.1
 repeat' (first | apply And.intro | intro _)
 all_goals (first
  | trivial
  | omega
  | exact ⟨0,⟨Nat.zero_le _,Za3⟩,rfl⟩
  | (refine ⟨_,⟨?_,ZaU (And.right (by assumption)) ?_⟩,?_,Zbs ?_⟩ <;> first | omega | (simp_all [Prod.ext_iff,EQA]; done))
  | exact (ZcA.2 (fun e=>by subst e; simp_all [EQA])).symm
  | exact (Zer.2 (by have hx:=Zch (t:=Zay) (xs:=a) (ys:=b) (show List.length a=List.length b by omega) (fun j hj=>(by assumption:_≤List.length a∧∀ j,j < _→ZaV a j=ZaV b j).2 j (by have hj' : j < List.length a:=hj; omega)); simp_all [Prod.ext_iff,EQA])).symm
  | (rw [Bool.eq_iff_iff]; simp_all [Prod.ext_iff,EQA]; done)
  | (simp_all [Prod.ext_iff,EQA]; done))
def ZD0:ZaE Tryz.prog:=⟨189,[.v (.list Zay), .v (.list Zay)],fun x=>True,fun x=>.c (.bool (Zbt x.1 x.2.1)),fun _=>[],fun x hx=>ZDZ x.1 x.2.1,Tryz.call189⟩
theorem ZG1 (a:List ZbT) (b:List ZbT):Zao Tryz.prog 132 [.ag [.hs .no Zay a], .ag [.hs .no Zay b]] (.c (.bool (Zbt a b))) []:=by
 refine bc0 [ZD0] [] [] [] L0 Tryz.func132 (fun hwf=>?_)
 refine Eq.mpr (β:=T7 (pt True∧True∧bif !(Zbt a b) then True∧rB false (Zbt a b) else True∧rB true (Zbt a b))) (by kernel_rfl) ?_
 simp only [SIA,eq_self]
 repeat' (first | apply And.intro | intro _)
 all_goals (first
  | trivial
  | omega
  | exact (ZcA.2 (fun e=>by subst e; simp_all [EQA])).symm
  | (rw [Bool.eq_iff_iff]; simp_all [Prod.ext_iff,EQA]; done)
  | (simp_all [Prod.ext_iff,EQA]; done))
def ZG2:ZaE Tryz.prog:=⟨132,[.s (.list Zay), .s (.list Zay)],fun x=>True,fun x=>.c (.bool (Zbt x.1 x.2.1)),fun _=>[],fun x hx=>ZG1 x.1 x.2.1,Tryz.call132⟩
theorem ZG3 (a:ZaM) (b:ZaM):Zao Tryz.prog 229 [.ag (cellsOf Zal a), .ag (cellsOf Zal b)] (.c (.bool (Zfw a b))) []:=by
 refine bc0 [] [] [] [] L0 Tryz.func229 (fun hwf=>?_)
 refine Eq.mpr (β:=T8 (bif neI a.1 b.1 then True∧rB false (Zfw a b) else T5 (bif neI a.2.1 b.2.1 then True∧rB false (Zfw a b) else T5 (bif neI a.2.2.1 b.2.2.1 then True∧rB false (Zfw a b) else T5 (bif !eqS a.2.2.2 b.2.2.2 then True∧rB false (Zfw a b) else True∧rB true (Zfw a b)))))) (by kernel_rfl) ?_
 simp only [SIA,eq_self]
 repeat' (first | apply And.intro | intro _)
 all_goals (first
  | trivial
  | omega
  | exact (ZhZ.2 (fun e=>by subst e; simp_all [EQA])).symm
  | (rw [Bool.eq_iff_iff]; simp_all [Prod.ext_iff,EQA]; done)
  | (simp_all [Prod.ext_iff,EQA]; done))
def ZG4:ZaE Tryz.prog:=⟨229,[.s Zal, .s Zal],fun x=>True,fun x=>.c (.bool (Zfw x.1 x.2.1)),fun _=>[],fun x hx=>ZG3 x.1 x.2.1,Tryz.call229⟩
def ZD1 (a:List ZaM) (b:List ZaM):Nat→List AV→Mem→Zbd
 | 4,tm,M=>⟨Nat,fun y=>(Zcf (Zct tm [(4, .any),(5, .c (.int .i64 ((y:Nat):Int)))]) 11 16,M),fun y=>(y≤List.length a∧∀ j,j < y→Zaf a j=Zaf b j),fun y=>(List.length a - y)⟩
 | _,_,_=>⟨Unit,fun _=>([],[]),fun _=>False,fun _=>0⟩
theorem ZD2 (a:List ZaM) (b:List ZaM):Zao Tryz.prog 191 [.c (.hs .no Zal a), .c (.hs .no Zal b)] (.c (.bool (Zdh a b))) []:=by
 refine bc0 [ZG4] [] [] [] (ZD1 a b) Tryz.func191 (fun hwf=>?_)
 refine Eq.mpr (β:=T6 (bif neI a.length b.length then True∧rB false (Zdh a b) else True∧(∃ q:Nat,(q≤a.length∧∀ j,j < q→Zaf a j=Zaf b j)∧lxs [hn Zal a,hn Zal b, .tp [], .tp []] (True∧vI 0 q∧lxs [hn Zal a,ci a.length,hn Zal b,ci b.length, .c (.bool false)] (TN 16 True))∧pt (True))∧∀ y0:Nat,(y0≤a.length∧∀ j,j < y0→Zaf a j=Zaf b j)→T4 (bif ltI y0 a.length then pt (true=true)∧T2 (ix 4 y0 a.length∧T3 (ix 4 y0 b.length∧True∧pt True∧True∧bif !(Zfw (Zaf a y0) (Zaf b y0)) then True∧rB false (Zdh a b) else T3 (∃ y0' : Nat,(y0'≤a.length∧∀ j,j < y0'→Zaf a j=Zaf b j)∧(a.length - y0') < (a.length - y0)∧lxs [hn Zal a,hn Zal b, .tp [], .tp []] (True∧vI (w64 ((y0:Int) + 1)) y0'∧lxs [hn Zal a,ci a.length,hn Zal b,ci b.length, .c (.bool false)] (TN 16 True))∧pt (True)))) else True∧rB true (Zdh a b)))) (by kernel_rfl) ?_
 unfold T2 T3 T4 T6
 simp only [SIA,eq_self]
 have hm0:List.length a≤maxLen:=hwf.1.1
 repeat' (first | apply And.intro | intro _)
 all_goals (first
  | trivial
  | omega
  | exact ⟨0,⟨Nat.zero_le _,Za3⟩,rfl⟩
  | (refine ⟨_,⟨?_,ZaU (And.right (by assumption)) ?_⟩,?_,Zbs ?_⟩ <;> first | omega | (simp_all [Prod.ext_iff,EQA]; done))
  | exact (Zeb.2 (fun e=>by subst e; simp_all [EQA])).symm
  | exact (Zfx.2 (by have hx:=Zch (t:=Zal) (xs:=a) (ys:=b) (show List.length a=List.length b by omega) (fun j hj=>(by assumption:_≤List.length a∧∀ j,j < _→Zaf a j=Zaf b j).2 j (by have hj' : j < List.length a:=hj; omega)); simp_all [Prod.ext_iff,EQA])).symm
  | (rw [Bool.eq_iff_iff]; simp_all [Prod.ext_iff,EQA]; done)
  | (simp_all [Prod.ext_iff,EQA]; done))
def ZD3:ZaE Tryz.prog:=⟨191,[.v (.list Zal), .v (.list Zal)],fun x=>True,fun x=>.c (.bool (Zdh x.1 x.2.1)),fun _=>[],fun x hx=>ZD2 x.1 x.2.1,Tryz.call191⟩
theorem ZD4 (a:ZbH) (b:ZbH):Zao Tryz.prog 134 [.ag [.hs .no Zal a.1, .bool a.2.1, .bool a.2.2], .ag [.hs .no Zal b.1, .bool b.2.1, .bool b.2.2]] (.c (.bool (ZbV a b))) []:=by
 refine bc0 [ZD3] [] [] [] L0 Tryz.func134 (fun hwf=>?_)
 refine Eq.mpr (β:=T7 (pt True∧True∧bif !(Zdh a.1 b.1) then True∧rB false (ZbV a b) else T4 (some TypeDesc.bool=some TypeDesc.bool∧bif !eqO a.2.1 b.2.1 then True∧rB false (ZbV a b) else T4 (some TypeDesc.bool=some TypeDesc.bool∧bif !eqO a.2.2 b.2.2 then True∧rB false (ZbV a b) else True∧rB true (ZbV a b))))) (by kernel_rfl) ?_
 simp only [SIA,eq_self]
 repeat' (first | apply And.intro | intro _)
 all_goals (first
  | trivial
  | omega
  | exact (ZcU.2 (fun e=>by subst e; simp_all [EQA])).symm
  | (rw [Bool.eq_iff_iff]; simp_all [Prod.ext_iff,EQA]; done)
  | (simp_all [Prod.ext_iff,EQA]; done))
def ZD5:ZaE Tryz.prog:=⟨134,[.s Zdv, .s Zdv],fun x=>True,fun x=>.c (.bool (ZbV x.1 x.2.1)),fun _=>[],fun x hx=>ZD4 x.1 x.2.1,Tryz.call134⟩
theorem ZJo (a:ZsC) (b:ZsC):Zao Tryz.prog 136 [.ag [.str a.1, .str a.2], .ag [.str b.1, .str b.2]] (.c (.bool (Zj5 a b))) []:=by
 refine bc0 [] [] [] [] L0 Tryz.func136 (fun hwf=>?_)
 refine Eq.mpr (β:=T8 (bif !eqS a.1 b.1 then True∧rB false (Zj5 a b) else T5 (bif !eqS a.2 b.2 then True∧rB false (Zj5 a b) else True∧rB true (Zj5 a b)))) (by kernel_rfl) ?_
 simp only [SIA,eq_self]
 repeat' (first | apply And.intro | intro _)
 all_goals (first
  | trivial
  | omega
  | exact (ZiY.2 (fun e=>by subst e; simp_all [EQA])).symm
  | (rw [Bool.eq_iff_iff]; simp_all [Prod.ext_iff,EQA]; done)
  | (simp_all [Prod.ext_iff,EQA]; done))
def ZJp:ZaE Tryz.prog:=⟨136,[.s Zmx, .s Zmx],fun x=>True,fun x=>.c (.bool (Zj5 x.1 x.2.1)),fun _=>[],fun x hx=>ZJo x.1 x.2.1,Tryz.call136⟩
theorem ZLn (a:GIn) (b:GIn):Zao Tryz.prog 135 [.ag [.str a.1, .bool a.2], .ag [.str b.1, .bool b.2]] (.c (.bool (Zn2 a b))) []:=by
 refine bc0 [] [] [] [] L0 Tryz.func135 (fun hwf=>?_)
 refine Eq.mpr (β:=T8 (bif !eqS a.1 b.1 then True∧rB false (Zn2 a b) else T4 (some TypeDesc.bool=some TypeDesc.bool∧bif !eqO a.2 b.2 then True∧rB false (Zn2 a b) else True∧rB true (Zn2 a b)))) (by kernel_rfl) ?_
 simp only [SIA,eq_self]
 repeat' (first | apply And.intro | intro _)
 all_goals (first
  | trivial
  | omega
  | exact (Zj6.2 (fun e=>by subst e; simp_all [EQA])).symm
  | (rw [Bool.eq_iff_iff]; simp_all [Prod.ext_iff,EQA]; done)
  | (simp_all [Prod.ext_iff,EQA]; done))
def ZLo:ZaE Tryz.prog:=⟨135,[.s ZEU, .s ZEU],fun x=>True,fun x=>.c (.bool (Zn2 x.1 x.2.1)),fun _=>[],fun x hx=>ZLn x.1 x.2.1,Tryz.call135⟩
def Zfp (a:Zad) (b:Zad):Prop:=True∧rB false (Zbi a b)
theorem ZvU (a:Zad) (b:Zad):Zao Tryz.prog 53 [.ag (cellsOf Zae a), .ag (cellsOf Zae b)] (.c (.bool (Zbi a b))) []:=by
 refine bc0 [ZG2,ZyF,ZD5,ZLo,ZJp] [] [] [] L0 Tryz.func53 (fun hwf=>?_)
 refine Eq.mpr (β:=T7 (some TypeDesc.bool=some TypeDesc.bool∧bif !eqO a.1 b.1 then Zfp a b else T5 (bif neI a.2.1 b.2.1 then Zfp a b else T5 (bif neI a.2.2.1 b.2.2.1 then Zfp a b else T5 (bif neI a.2.2.2.1 b.2.2.2.1 then Zfp a b else T4 (pt True∧True∧bif !(Zbt a.2.2.2.2.1 b.2.2.2.2.1) then Zfp a b else T4 (pt True∧True∧bif !(ZbK a.2.2.2.2.2.1 b.2.2.2.2.2.1) then Zfp a b else T5 (bif !eqS a.2.2.2.2.2.2.1 b.2.2.2.2.2.2.1 then Zfp a b else T5 (bif !eqS a.2.2.2.2.2.2.2.1 b.2.2.2.2.2.2.2.1 then Zfp a b else T4 (pt True∧True∧bif !(ZbV a.2.2.2.2.2.2.2.2.1 b.2.2.2.2.2.2.2.2.1) then Zfp a b else T4 (pt True∧True∧bif !(Zn2 a.2.2.2.2.2.2.2.2.2.1 b.2.2.2.2.2.2.2.2.2.1) then Zfp a b else T4 (pt True∧True∧bif !(Zj5 a.2.2.2.2.2.2.2.2.2.2.1 b.2.2.2.2.2.2.2.2.2.2.1) then Zfp a b else T5 (bif neI a.2.2.2.2.2.2.2.2.2.2.2 b.2.2.2.2.2.2.2.2.2.2.2 then Zfp a b else True∧rB true (Zbi a b)))))))))))))) (by kernel_rfl) ?_
 unfold Zfp T4 T5 T7
 simp only [SIA,eq_self]
 repeat' (first | apply And.intro | intro _)
 all_goals (first
  | trivial
  | omega
  | exact (Zfn.2 (fun e=>by subst e; simp_all [EQA])).symm
  | (rw [Bool.eq_iff_iff]; simp_all [Prod.ext_iff,EQA]; done)
  | (simp_all [Prod.ext_iff,EQA]; done))
def ZvV:ZaE Tryz.prog:=⟨53,[.s Zae, .s Zae],fun x=>True,fun x=>.c (.bool (Zbi x.1 x.2.1)),fun _=>[],fun x hx=>ZvU x.1 x.2.1,Tryz.call53⟩
def Zsy (a:List Zad) (b:List Zad):Nat→List AV→Mem→Zbd
 | 4,tm,M=>⟨Nat,fun y=>(Zcf (Zct tm [(4, .any),(5, .c (.int .i64 ((y:Nat):Int)))]) 11 16,M),fun y=>(y≤List.length a∧∀ j,j < y→Zaa a j=Zaa b j),fun y=>(List.length a - y)⟩
 | _,_,_=>⟨Unit,fun _=>([],[]),fun _=>False,fun _=>0⟩
theorem Zsz (a:List Zad) (b:List Zad):Zao Tryz.prog 25 [.c (.hs .no Zae a), .c (.hs .no Zae b)] (.c (.bool (ZdA a b))) []:=by
 refine bc0 [ZvV] [] [] [] (Zsy a b) Tryz.func25 (fun hwf=>?_)
 refine Eq.mpr (β:=T6 (bif neI a.length b.length then True∧rB false (ZdA a b) else True∧(∃ q:Nat,(q≤a.length∧∀ j,j < q→Zaa a j=Zaa b j)∧lxs [hn Zae a,hn Zae b, .tp [], .tp []] (True∧vI 0 q∧lxs [hn Zae a,ci a.length,hn Zae b,ci b.length, .c (.bool false)] (TN 16 True))∧pt (True))∧∀ y0:Nat,(y0≤a.length∧∀ j,j < y0→Zaa a j=Zaa b j)→T4 (bif ltI y0 a.length then pt (true=true)∧T2 (ix 17 y0 a.length∧T3 (ix 17 y0 b.length∧True∧pt True∧True∧bif !(Zbi (Zaa a y0) (Zaa b y0)) then True∧rB false (ZdA a b) else T3 (∃ y0' : Nat,(y0'≤a.length∧∀ j,j < y0'→Zaa a j=Zaa b j)∧(a.length - y0') < (a.length - y0)∧lxs [hn Zae a,hn Zae b, .tp [], .tp []] (True∧vI (w64 ((y0:Int) + 1)) y0'∧lxs [hn Zae a,ci a.length,hn Zae b,ci b.length, .c (.bool false)] (TN 16 True))∧pt (True)))) else True∧rB true (ZdA a b)))) (by kernel_rfl) ?_
 unfold T2 T3 T4 T6
 simp only [SIA,eq_self]
 have hm0:List.length a≤maxLen:=hwf.1.1
 repeat' (first | apply And.intro | intro _)
 all_goals (first
  | trivial
  | omega
  | exact ⟨0,⟨Nat.zero_le _,Za3⟩,rfl⟩
  | (refine ⟨_,⟨?_,ZaU (And.right (by assumption)) ?_⟩,?_,Zbs ?_⟩ <;> first | omega | (simp_all [Prod.ext_iff,EQA]; done))
  | exact (ZeS.2 (fun e=>by subst e; simp_all [EQA])).symm
  | exact (Zfo.2 (by have hx:=Zch (t:=Zae) (xs:=a) (ys:=b) (show List.length a=List.length b by omega) (fun j hj=>(by assumption:_≤List.length a∧∀ j,j < _→Zaa a j=Zaa b j).2 j (by have hj' : j < List.length a:=hj; omega)); simp_all [Prod.ext_iff,EQA])).symm
  | (rw [Bool.eq_iff_iff]; simp_all [Prod.ext_iff,EQA]; done)
  | (simp_all [Prod.ext_iff,EQA]; done))
def ZsA:ZaE Tryz.prog:=⟨25,[.v (.list Zae), .v (.list Zae)],fun x=>True,fun x=>.c (.bool (ZdA x.1 x.2.1)),fun _=>[],fun x hx=>Zsz x.1 x.2.1,Tryz.call25⟩
theorem ZyI (a:ZaT) (b:ZaT):Zao Tryz.prog 8 [.ag (cellsOf Zbm a), .ag (cellsOf Zbm b)] (.c (.bool (Zc7 a b))) []:=by
 refine bc0 [ZDX,ZsA] [] [] [] L0 Tryz.func8 (fun hwf=>?_)
 refine Eq.mpr (β:=T7 (pt True∧True∧bif !(ZeR a.1 b.1) then True∧rB false (Zc7 a b) else T4 (pt True∧True∧bif !(ZdA a.2 b.2) then True∧rB false (Zc7 a b) else True∧rB true (Zc7 a b)))) (by kernel_rfl) ?_
 simp only [SIA,eq_self]
 repeat' (first | apply And.intro | intro _)
 all_goals (first
  | trivial
  | omega
  | exact (ZfZ.2 (fun e=>by subst e; simp_all [EQA])).symm
  | (rw [Bool.eq_iff_iff]; simp_all [Prod.ext_iff,EQA]; done)
  | (simp_all [Prod.ext_iff,EQA]; done))
def ZyJ:ZaE Tryz.prog:=⟨8,[.s Zbm, .s Zbm],fun x=>True,fun x=>.c (.bool (Zc7 x.1 x.2.1)),fun _=>[],fun x hx=>ZyI x.1 x.2.1,Tryz.call8⟩
def ZG5 (a:List Int) (b:List Int):Nat→List AV→Mem→Zbd
 | 4,tm,M=>⟨Nat,fun y=>(Zcf (Zct tm [(4, .any),(5, .c (.int .i64 ((y:Nat):Int)))]) 11 15,M),fun y=>(y≤List.length a∧∀ j,j < y→Zar a j=Zar b j),fun y=>(List.length a - y)⟩
 | _,_,_=>⟨Unit,fun _=>([],[]),fun _=>False,fun _=>0⟩
theorem ZG6 (a:List Int) (b:List Int):Zao Tryz.prog 9 [.c (.hs .no Zax a), .c (.hs .no Zax b)] (.c (.bool (ZeT a b))) []:=by
 refine bc0 [] [] [] [] (ZG5 a b) Tryz.func9 (fun hwf=>?_)
 refine Eq.mpr (β:=T6 (bif neI a.length b.length then True∧rB false (ZeT a b) else True∧(∃ q:Nat,(q≤a.length∧∀ j,j < q→Zar a j=Zar b j)∧lxs [hn Zax a,hn Zax b, .tp [], .tp []] (True∧vI 0 q∧lxs [hn Zax a,ci a.length,hn Zax b,ci b.length, .c (.bool false)] (TN 15 True))∧pt (True))∧∀ y0:Nat,(y0≤a.length∧∀ j,j < y0→Zar a j=Zar b j)→T4 (bif ltI y0 a.length then pt (true=true)∧T2 (ix 1 y0 a.length∧T3 (ix 1 y0 b.length∧T2 (bif neI (Zar a y0) (Zar b y0) then True∧rB false (ZeT a b) else T3 (∃ y0' : Nat,(y0'≤a.length∧∀ j,j < y0'→Zar a j=Zar b j)∧(a.length - y0') < (a.length - y0)∧lxs [hn Zax a,hn Zax b, .tp [], .tp []] (True∧vI (w64 ((y0:Int) + 1)) y0'∧lxs [hn Zax a,ci a.length,hn Zax b,ci b.length, .c (.bool false)] (TN 15 True))∧pt (True))))) else True∧rB true (ZeT a b)))) (by kernel_rfl) ?_
 unfold T2 T3 T4 T6
 simp only [SIA,eq_self]
 have hm0:List.length a≤maxLen:=hwf.1.1
 repeat' (first | apply And.intro | intro _)
 all_goals (first
  | trivial
  | omega
  | exact ⟨0,⟨Nat.zero_le _,Za3⟩,rfl⟩
  | (refine ⟨_,⟨?_,ZaU (And.right (by assumption)) ?_⟩,?_,Zbs ?_⟩ <;> first | omega | (simp_all [Prod.ext_iff,EQA]; done))
  | exact (Zh0.2 (fun e=>by subst e; simp_all [EQA])).symm
  | exact (Zgq.2 (by have hx:=Zch (t:=Zax) (xs:=a) (ys:=b) (show List.length a=List.length b by omega) (fun j hj=>(by assumption:_≤List.length a∧∀ j,j < _→Zar a j=Zar b j).2 j (by have hj' : j < List.length a:=hj; omega)); simp_all [Prod.ext_iff,EQA])).symm
  | (rw [Bool.eq_iff_iff]; simp_all [Prod.ext_iff,EQA]; done)
  | (simp_all [Prod.ext_iff,EQA]; done))
def ZG7:ZaE Tryz.prog:=⟨9,[.v (.list Zax), .v (.list Zax)],fun x=>True,fun x=>.c (.bool (ZeT x.1 x.2.1)),fun _=>[],fun x hx=>ZG6 x.1 x.2.1,Tryz.call9⟩
end Go.Proofs.YtafhbjjcpncfnaaGreat
