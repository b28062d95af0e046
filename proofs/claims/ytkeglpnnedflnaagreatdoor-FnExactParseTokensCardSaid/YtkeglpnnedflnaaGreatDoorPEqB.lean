import Derived.Test.YtkeglpnnedflnaaGreatDoorPBmTy
set_option linter.unusedSimpArgs false
set_option linter.unusedVariables false
set_option maxRecDepth 100000
set_option maxHeartbeats 4000000
namespace Go.Proofs.YtkeglpnnedflnaaGreatDoor
open Go.ChangeShapes Go.WideShapes Go.ChangeAt Go.RowKit Go.Joins Go.Deep
open GoRep (rep bulk)
theorem ZyN (a:GToken) (b:GToken):Zaq Tryz.prog 72 [.ag [.int .i64 a.1, .str a.2], .ag [.int .i64 b.1, .str b.2]] (.c (.bool (Zex a b))) []:=by
 refine bc0 [] [] [] [] L0 Tryz.func72 (fun hwf=>?_)
 refine Eq.mpr (β:=T8 (bif neI a.1 b.1 then True∧rB false (Zex a b) else T5 (bif !eqS a.2 b.2 then True∧rB false (Zex a b) else True∧rB true (Zex a b)))) (by kernel_rfl) ?_
 simp only [SIA,eq_self]
 repeat' (first | apply And.intro | intro _)
 all_goals (first
  | trivial
  | omega
  | exact (Zfp.2 (fun e=>by subst e; simp_all [EQA])).symm
  | (rw [Bool.eq_iff_iff]; simp_all [Prod.ext_iff,EQA]; done)
  | (simp_all [Prod.ext_iff,EQA]; done))
def ZyO:ZaD Tryz.prog:=⟨72,[.s Zab, .s Zab],fun x=>True,fun x=>.c (.bool (Zex x.1 x.2.1)),fun _=>[],fun x hx=>ZyN x.1 x.2.1,Tryz.call72⟩
def ZuB (a:List GToken) (b:List GToken):Nat→List AV→Mem→Zbe
 | 4,tm,M=>⟨Nat,fun y=>(Zcp (ZcG tm [(4, .any),(5, .c (.int .i64 ((y:Nat):Int)))]) 11 16,M),fun y=>(y≤List.length a∧∀ j,j < y→Zag a j=Zag b j),fun y=>(List.length a - y)⟩
 | _,_,_=>⟨Unit,fun _=>([],[]),fun _=>False,fun _=>0⟩
theorem ZuC (a:List GToken) (b:List GToken):Zaq Tryz.prog 17 [.c (.hs .no Zab a), .c (.hs .no Zab b)] (.c (.bool (ZcY a b))) []:=by
 refine bc0 [ZyO] [] [] [] (ZuB a b) Tryz.func17 (fun hwf=>?_)
 refine Eq.mpr (β:=T6 (bif neI a.length b.length then True∧rB false (ZcY a b) else True∧(∃ q:Nat,(q≤a.length∧∀ j,j < q→Zag a j=Zag b j)∧lxs [hn Zab a,hn Zab b, .tp [], .tp []] (True∧vI 0 q∧lxs [hn Zab a,ci a.length,hn Zab b,ci b.length, .c (.bool false)] (TN 16 True))∧pt (True))∧∀ y0:Nat,(y0≤a.length∧∀ j,j < y0→Zag a j=Zag b j)→T4 (bif ltI y0 a.length then pt (true=true)∧T2 (ix 2 y0 a.length∧T3 (ix 2 y0 b.length∧True∧pt True∧True∧bif !(Zex (Zag a y0) (Zag b y0)) then True∧rB false (ZcY a b) else T3 (∃ y0' : Nat,(y0'≤a.length∧∀ j,j < y0'→Zag a j=Zag b j)∧(a.length - y0') < (a.length - y0)∧lxs [hn Zab a,hn Zab b, .tp [], .tp []] (True∧vI (w64 ((y0:Int) + 1)) y0'∧lxs [hn Zab a,ci a.length,hn Zab b,ci b.length, .c (.bool false)] (TN 16 True))∧pt (True)))) else True∧rB true (ZcY a b)))) (by kernel_rfl) ?_
 unfold T2 T3 T4 T6
 simp only [SIA,eq_self]
 have hm0:List.length a≤maxLen:=hwf.1.1
 repeat' (first | apply And.intro | intro _)
 all_goals (first
  | trivial
  | omega
  | exact ⟨0,⟨Nat.zero_le _,Zbp⟩,rfl⟩
  | (refine ⟨_,⟨?_,Zcf (And.right (by assumption)) ?_⟩,?_,Zbm ?_⟩ <;> first | omega | (simp_all [Prod.ext_iff,EQA]; done))
  | exact (ZeI.2 (fun e=>by subst e; simp_all [EQA])).symm
  | exact (ZdI.2 (by have hx:=Zew (t:=Zab) (xs:=a) (ys:=b) (show List.length a=List.length b by omega) (fun j hj=>(by assumption:_≤List.length a∧∀ j,j < _→Zag a j=Zag b j).2 j (by have hj' : j < List.length a:=hj; omega)); simp_all [Prod.ext_iff,EQA])).symm
  | (rw [Bool.eq_iff_iff]; simp_all [Prod.ext_iff,EQA]; done)
  | (simp_all [Prod.ext_iff,EQA]; done))
def ZuD:ZaD Tryz.prog:=⟨17,[.v (.list Zab), .v (.list Zab)],fun x=>True,fun x=>.c (.bool (ZcY x.1 x.2.1)),fun _=>[],fun x hx=>ZuC x.1 x.2.1,Tryz.call17⟩
theorem ZBU (a:Zaj) (b:Zaj):Zaq Tryz.prog 130 [.ag [.int .i64 a.1, .int .i64 a.2], .ag [.int .i64 b.1, .int .i64 b.2]] (.c (.bool (ZfK a b))) []:=by
 refine bc0 [] [] [] [] L0 Tryz.func130 (fun hwf=>?_)
 refine Eq.mpr (β:=T8 (bif neI a.1 b.1 then True∧rB false (ZfK a b) else T5 (bif neI a.2 b.2 then True∧rB false (ZfK a b) else True∧rB true (ZfK a b)))) (by kernel_rfl) ?_
 simp only [SIA,eq_self]
 repeat' (first | apply And.intro | intro _)
 all_goals (first
  | trivial
  | omega
  | exact (Zf2.2 (fun e=>by subst e; simp_all [EQA])).symm
  | (rw [Bool.eq_iff_iff]; simp_all [Prod.ext_iff,EQA]; done)
  | (simp_all [Prod.ext_iff,EQA]; done))
def ZBV:ZaD Tryz.prog:=⟨130,[.s Zai, .s Zai],fun x=>True,fun x=>.c (.bool (ZfK x.1 x.2.1)),fun _=>[],fun x hx=>ZBU x.1 x.2.1,Tryz.call130⟩
def ZyP (a:List Zaj) (b:List Zaj):Nat→List AV→Mem→Zbe
 | 4,tm,M=>⟨Nat,fun y=>(Zcp (ZcG tm [(4, .any),(5, .c (.int .i64 ((y:Nat):Int)))]) 11 16,M),fun y=>(y≤List.length a∧∀ j,j < y→Zak a j=Zak b j),fun y=>(List.length a - y)⟩
 | _,_,_=>⟨Unit,fun _=>([],[]),fun _=>False,fun _=>0⟩
theorem ZyQ (a:List Zaj) (b:List Zaj):Zaq Tryz.prog 70 [.c (.hs .no Zai a), .c (.hs .no Zai b)] (.c (.bool (ZbW a b))) []:=by
 refine bc0 [ZBV] [] [] [] (ZyP a b) Tryz.func70 (fun hwf=>?_)
 refine Eq.mpr (β:=T6 (bif neI a.length b.length then True∧rB false (ZbW a b) else True∧(∃ q:Nat,(q≤a.length∧∀ j,j < q→Zak a j=Zak b j)∧lxs [hn Zai a,hn Zai b, .tp [], .tp []] (True∧vI 0 q∧lxs [hn Zai a,ci a.length,hn Zai b,ci b.length, .c (.bool false)] (TN 16 True))∧pt (True))∧∀ y0:Nat,(y0≤a.length∧∀ j,j < y0→Zak a j=Zak b j)→T4 (bif ltI y0 a.length then pt (true=true)∧T2 (ix 2 y0 a.length∧T3 (ix 2 y0 b.length∧True∧pt True∧True∧bif !(ZfK (Zak a y0) (Zak b y0)) then True∧rB false (ZbW a b) else T3 (∃ y0' : Nat,(y0'≤a.length∧∀ j,j < y0'→Zak a j=Zak b j)∧(a.length - y0') < (a.length - y0)∧lxs [hn Zai a,hn Zai b, .tp [], .tp []] (True∧vI (w64 ((y0:Int) + 1)) y0'∧lxs [hn Zai a,ci a.length,hn Zai b,ci b.length, .c (.bool false)] (TN 16 True))∧pt (True)))) else True∧rB true (ZbW a b)))) (by kernel_rfl) ?_
 unfold T2 T3 T4 T6
 simp only [SIA,eq_self]
 have hm0:List.length a≤maxLen:=hwf.1.1
 repeat' (first | apply And.intro | intro _)
 all_goals (first
  | trivial
  | omega
  | exact ⟨0,⟨Nat.zero_le _,Zbp⟩,rfl⟩
  | (refine ⟨_,⟨?_,Zcf (And.right (by assumption)) ?_⟩,?_,Zbm ?_⟩ <;> first | omega | (simp_all [Prod.ext_iff,EQA]; done))
  | exact (ZcU.2 (fun e=>by subst e; simp_all [EQA])).symm
  | exact (ZcH.2 (by have hx:=Zew (t:=Zai) (xs:=a) (ys:=b) (show List.length a=List.length b by omega) (fun j hj=>(by assumption:_≤List.length a∧∀ j,j < _→Zak a j=Zak b j).2 j (by have hj' : j < List.length a:=hj; omega)); simp_all [Prod.ext_iff,EQA])).symm
  | (rw [Bool.eq_iff_iff]; simp_all [Prod.ext_iff,EQA]; done)
  | (simp_all [Prod.ext_iff,EQA]; done))
def ZyR:ZaD Tryz.prog:=⟨70,[.v (.list Zai), .v (.list Zai)],fun x=>True,fun x=>.c (.bool (ZbW x.1 x.2.1)),fun _=>[],fun x hx=>ZyQ x.1 x.2.1,Tryz.call70⟩
def ZsF (a:List ByteArray) (b:List ByteArray):Nat→List AV→Mem→Zbe
 | 4,tm,M=>⟨Nat,fun y=>(Zcp (ZcG tm [(4, .any),(5, .c (.int .i64 ((y:Nat):Int)))]) 11 15,M),fun y=>(y≤List.length a∧∀ j,j < y→Zaa a j=Zaa b j),fun y=>(List.length a - y)⟩
 | _,_,_=>⟨Unit,fun _=>([],[]),fun _=>False,fun _=>0⟩
theorem ZsG (a:List ByteArray) (b:List ByteArray):Zaq Tryz.prog 206 [.c (.hs .no Zah a), .c (.hs .no Zah b)] (.c (.bool (Za1 a b))) []:=by
 refine bc0 [] [] [] [] (ZsF a b) Tryz.func206 (fun hwf=>?_)
 refine Eq.mpr (β:=T6 (bif neI a.length b.length then True∧rB false (Za1 a b) else True∧(∃ q:Nat,(q≤a.length∧∀ j,j < q→Zaa a j=Zaa b j)∧lxs [hn Zah a,hn Zah b, .tp [], .tp []] (True∧vI 0 q∧lxs [hn Zah a,ci a.length,hn Zah b,ci b.length, .c (.bool false)] (TN 15 True))∧pt (True))∧∀ y0:Nat,(y0≤a.length∧∀ j,j < y0→Zaa a j=Zaa b j)→T4 (bif ltI y0 a.length then pt (true=true)∧T2 (ix 1 y0 a.length∧T3 (ix 1 y0 b.length∧T2 (bif !eqS (Zaa a y0) (Zaa b y0) then True∧rB false (Za1 a b) else T3 (∃ y0' : Nat,(y0'≤a.length∧∀ j,j < y0'→Zaa a j=Zaa b j)∧(a.length - y0') < (a.length - y0)∧lxs [hn Zah a,hn Zah b, .tp [], .tp []] (True∧vI (w64 ((y0:Int) + 1)) y0'∧lxs [hn Zah a,ci a.length,hn Zah b,ci b.length, .c (.bool false)] (TN 15 True))∧pt (True))))) else True∧rB true (Za1 a b)))) (by kernel_rfl) ?_
 unfold T2 T3 T4 T6
 simp only [SIA,eq_self]
 have hm0:List.length a≤maxLen:=hwf.1.1
 repeat' (first | apply And.intro | intro _)
 all_goals (first
  | trivial
  | omega
  | exact ⟨0,⟨Nat.zero_le _,Zbp⟩,rfl⟩
  | (refine ⟨_,⟨?_,Zcf (And.right (by assumption)) ?_⟩,?_,Zbm ?_⟩ <;> first | omega | (simp_all [Prod.ext_iff,EQA]; done))
  | exact (Zbx.2 (fun e=>by subst e; simp_all [EQA])).symm
  | exact (ZcE.2 (by have hx:=Zew (t:=Zah) (xs:=a) (ys:=b) (show List.length a=List.length b by omega) (fun j hj=>(by assumption:_≤List.length a∧∀ j,j < _→Zaa a j=Zaa b j).2 j (by have hj' : j < List.length a:=hj; omega)); simp_all [Prod.ext_iff,EQA])).symm
  | (rw [Bool.eq_iff_iff]; simp_all [Prod.ext_iff,EQA]; done)
  | (simp_all [Prod.ext_iff,EQA]; done))
def ZsH:ZaD Tryz.prog:=⟨206,[.v (.list Zah), .v (.list Zah)],fun x=>True,fun x=>.c (.bool (Za1 x.1 x.2.1)),fun _=>[],fun x hx=>ZsG x.1 x.2.1,Tryz.call206⟩
theorem ZyS (a:GScope) (b:GScope):Zaq Tryz.prog 178 [.ag [.int .i64 a.1, .hs .no Zah a.2.1, .int .i64 a.2.2], .ag [.int .i64 b.1, .hs .no Zah b.2.1, .int .i64 b.2.2]] (.c (.bool (ZbI a b))) []:=by
 refine bc0 [ZsH] [] [] [] L0 Tryz.func178 (fun hwf=>?_)
 refine Eq.mpr (β:=T8 (bif neI a.1 b.1 then True∧rB false (ZbI a b) else T4 (pt True∧True∧bif !(Za1 a.2.1 b.2.1) then True∧rB false (ZbI a b) else T5 (bif neI a.2.2 b.2.2 then True∧rB false (ZbI a b) else True∧rB true (ZbI a b))))) (by kernel_rfl) ?_
 simp only [SIA,eq_self]
 repeat' (first | apply And.intro | intro _)
 all_goals (first
  | trivial
  | omega
  | exact (Zfq.2 (fun e=>by subst e; simp_all [EQA])).symm
  | (rw [Bool.eq_iff_iff]; simp_all [Prod.ext_iff,EQA]; done)
  | (simp_all [Prod.ext_iff,EQA]; done))
def ZyT:ZaD Tryz.prog:=⟨178,[.s Zae, .s Zae],fun x=>True,fun x=>.c (.bool (ZbI x.1 x.2.1)),fun _=>[],fun x hx=>ZyS x.1 x.2.1,Tryz.call178⟩
def ZuE (a:List GScope) (b:List GScope):Nat→List AV→Mem→Zbe
 | 4,tm,M=>⟨Nat,fun y=>(Zcp (ZcG tm [(4, .any),(5, .c (.int .i64 ((y:Nat):Int)))]) 11 16,M),fun y=>(y≤List.length a∧∀ j,j < y→Zad a j=Zad b j),fun y=>(List.length a - y)⟩
 | _,_,_=>⟨Unit,fun _=>([],[]),fun _=>False,fun _=>0⟩
theorem ZuF (a:List GScope) (b:List GScope):Zaq Tryz.prog 131 [.c (.hs .no Zae a), .c (.hs .no Zae b)] (.c (.bool (Zdq a b))) []:=by
 refine bc0 [ZyT] [] [] [] (ZuE a b) Tryz.func131 (fun hwf=>?_)
 refine Eq.mpr (β:=T6 (bif neI a.length b.length then True∧rB false (Zdq a b) else True∧(∃ q:Nat,(q≤a.length∧∀ j,j < q→Zad a j=Zad b j)∧lxs [hn Zae a,hn Zae b, .tp [], .tp []] (True∧vI 0 q∧lxs [hn Zae a,ci a.length,hn Zae b,ci b.length, .c (.bool false)] (TN 16 True))∧pt (True))∧∀ y0:Nat,(y0≤a.length∧∀ j,j < y0→Zad a j=Zad b j)→T4 (bif ltI y0 a.length then pt (true=true)∧T2 (ix 3 y0 a.length∧T3 (ix 3 y0 b.length∧True∧pt True∧True∧bif !(ZbI (Zad a y0) (Zad b y0)) then True∧rB false (Zdq a b) else T3 (∃ y0' : Nat,(y0'≤a.length∧∀ j,j < y0'→Zad a j=Zad b j)∧(a.length - y0') < (a.length - y0)∧lxs [hn Zae a,hn Zae b, .tp [], .tp []] (True∧vI (w64 ((y0:Int) + 1)) y0'∧lxs [hn Zae a,ci a.length,hn Zae b,ci b.length, .c (.bool false)] (TN 16 True))∧pt (True)))) else True∧rB true (Zdq a b)))) (by kernel_rfl) ?_
 unfold T2 T3 T4 T6
 simp only [SIA,eq_self]
 have hm0:List.length a≤maxLen:=hwf.1.1
 repeat' (first | apply And.intro | intro _)
 all_goals (first
  | trivial
  | omega
  | exact ⟨0,⟨Nat.zero_le _,Zbp⟩,rfl⟩
  | (refine ⟨_,⟨?_,Zcf (And.right (by assumption)) ?_⟩,?_,Zbm ?_⟩ <;> first | omega | (simp_all [Prod.ext_iff,EQA]; done))
  | exact (ZeJ.2 (fun e=>by subst e; simp_all [EQA])).symm
  | exact (Zfr.2 (by have hx:=Zew (t:=Zae) (xs:=a) (ys:=b) (show List.length a=List.length b by omega) (fun j hj=>(by assumption:_≤List.length a∧∀ j,j < _→Zad a j=Zad b j).2 j (by have hj' : j < List.length a:=hj; omega)); simp_all [Prod.ext_iff,EQA])).symm
  | (rw [Bool.eq_iff_iff]; simp_all [Prod.ext_iff,EQA]; done)
  | (simp_all [Prod.ext_iff,EQA]; done))
def ZuG:ZaD Tryz.prog:=⟨131,[.v (.list Zae), .v (.list Zae)],fun x=>True,fun x=>.c (.bool (Zdq x.1 x.2.1)),fun _=>[],fun x hx=>ZuF x.1 x.2.1,Tryz.call131⟩
theorem ZuH (a:GFilter) (b:GFilter):Zaq Tryz.prog 71 [.ag [.bool a.1, .hs .no Zae a.2], .ag [.bool b.1, .hs .no Zae b.2]] (.c (.bool (ZaT a b))) []:=by
 refine bc0 [ZuG] [] [] [] L0 Tryz.func71 (fun hwf=>?_)
 refine Eq.mpr (β:=T7 (some TypeDesc.bool=some TypeDesc.bool∧bif !eqO a.1 b.1 then True∧rB false (ZaT a b) else T4 (pt True∧True∧bif !(Zdq a.2 b.2) then True∧rB false (ZaT a b) else True∧rB true (ZaT a b)))) (by kernel_rfl) ?_
 simp only [SIA,eq_self]
 repeat' (first | apply And.intro | intro _)
 all_goals (first
  | trivial
  | omega
  | exact (Zdc.2 (fun e=>by subst e; simp_all [EQA])).symm
  | (rw [Bool.eq_iff_iff]; simp_all [Prod.ext_iff,EQA]; done)
  | (simp_all [Prod.ext_iff,EQA]; done))
def ZuI:ZaD Tryz.prog:=⟨71,[.s ZbF, .s ZbF],fun x=>True,fun x=>.c (.bool (ZaT x.1 x.2.1)),fun _=>[],fun x hx=>ZuH x.1 x.2.1,Tryz.call71⟩
def Zfu (a:GCommand) (b:GCommand):Prop:=True∧rB false (Zcl a b)
theorem ZsI (a:GCommand) (b:GCommand):Zaq Tryz.prog 16 [.ag (cellsOf ZaH a), .ag (cellsOf ZaH b)] (.c (.bool (Zcl a b))) []:=by
 refine bc0 [ZyR,ZuI] [] [] [] L0 Tryz.func16 (fun hwf=>?_)
 refine Eq.mpr (β:=T8 (bif !eqS a.1 b.1 then Zfu a b else T5 (bif neI a.2.1 b.2.1 then Zfu a b else T5 (bif !eqS a.2.2.1 b.2.2.1 then Zfu a b else T5 (bif !eqS a.2.2.2.1 b.2.2.2.1 then Zfu a b else T4 (some TypeDesc.bool=some TypeDesc.bool∧bif !eqO a.2.2.2.2.1 b.2.2.2.2.1 then Zfu a b else T4 (pt True∧True∧bif !(ZbW a.2.2.2.2.2.1 b.2.2.2.2.2.1) then Zfu a b else T5 (bif neI a.2.2.2.2.2.2.1 b.2.2.2.2.2.2.1 then Zfu a b else T5 (bif neI a.2.2.2.2.2.2.2.1 b.2.2.2.2.2.2.2.1 then Zfu a b else T5 (bif !eqS a.2.2.2.2.2.2.2.2.1 b.2.2.2.2.2.2.2.2.1 then Zfu a b else T4 (pt True∧True∧bif !(ZaT a.2.2.2.2.2.2.2.2.2 b.2.2.2.2.2.2.2.2.2) then Zfu a b else True∧rB true (Zcl a b)))))))))))) (by kernel_rfl) ?_
 unfold Zfu T4 T5 T8
 simp only [SIA,eq_self]
 repeat' (first | apply And.intro | intro _)
 all_goals (first
  | trivial
  | omega
  | exact (Zed.2 (fun e=>by subst e; simp_all [EQA])).symm
  | (rw [Bool.eq_iff_iff]; simp_all [Prod.ext_iff,EQA]; done)
  | (simp_all [Prod.ext_iff,EQA]; done))
def ZsJ:ZaD Tryz.prog:=⟨16,[.s ZaH, .s ZaH],fun x=>True,fun x=>.c (.bool (Zcl x.1 x.2.1)),fun _=>[],fun x hx=>ZsI x.1 x.2.1,Tryz.call16⟩
end Go.Proofs.YtkeglpnnedflnaaGreatDoor
