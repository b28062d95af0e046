import Derived.Test.YtkompmgleojmlaaGreatFBmTy
set_option linter.unusedSimpArgs false
set_option linter.unusedVariables false
set_option maxRecDepth 100000
set_option maxHeartbeats 4000000
namespace Go.Proofs.YtkompmgleojmlaaGreat
open Go.ChangeShapes Go.WideShapes Go.ChangeAt Go.RowKit Go.Joins Go.Deep
open GoRep (rep bulk)
def ZsX (a:List ByteArray) (b:List ByteArray):Nat→List AV→Mem→Zbn
  | 4,tm,M=>⟨Nat,fun y=>(ZcN (ZcV tm [(4, .any),(5, .c (.int .i64 ((y:Nat):Int)))]) 11 15,M),fun y=>(y≤List.length a∧∀ j,j < y→ZaJ a j=ZaJ b j),fun y=>(List.length a - y)⟩
  | _,_,_=>⟨Unit,fun _=>([],[]),fun _=>False,fun _=>0⟩
theorem ZsY (a:List ByteArray) (b:List ByteArray):Zat Tryz.prog 303 [.c (.hs .no ZaK a), .c (.hs .no ZaK b)] (.c (.bool (Zds a b))) []:=by
  refine bc0 [] [] [] [] (ZsX a b) Tryz.func303 (fun hwf=>?_)
  refine Eq.mpr (β:=(T6 (bif (neI (List.length a) (List.length b)) then (True∧(rB false (Zds a b))) else (True∧((∃ q:Nat,(q≤List.length a∧∀ j,j < q→ZaJ a j=ZaJ b j)∧((lxs [hn ZaK a,hn ZaK b, .tp [], .tp []] (True∧vI 0 q∧lxs [hn ZaK a,ci (List.length a),hn ZaK b,ci (List.length b), .c (.bool false)] (TN 15 True)))∧pt (True)))∧∀ y0:Nat,(y0≤List.length a∧∀ j,j < y0→ZaJ a j=ZaJ b j)→(T4 (bif (ltI y0 (List.length a)) then ((pt (true=true))∧(T2 ((ix 1 y0 (List.length a))∧(T3 ((ix 1 y0 (List.length b))∧(T2 (bif (!eqS (ZaJ a y0) (ZaJ b y0)) then (True∧(rB false (Zds a b))) else (T3 (∃ y0' : Nat,(y0'≤List.length a∧∀ j,j < y0'→ZaJ a j=ZaJ b j)∧(List.length a - y0') < (List.length a - y0)∧((lxs [hn ZaK a,hn ZaK b, .tp [], .tp []] (True∧vI (w64 ((y0:Int) + 1)) y0'∧lxs [hn ZaK a,ci (List.length a),hn ZaK b,ci (List.length b), .c (.bool false)] (TN 15 True)))∧pt (True))))))))))) else (True∧(rB true (Zds a b)))))))))) (by kernel_rfl) ?_
  unfold T2 T3 T4 T6
  simp only [SIA,eq_self]
  have hm0:List.length a≤maxLen:=hwf.1.1
  repeat' (first | apply And.intro | intro _)
  all_goals (first
    | trivial
    | omega
    | exact ⟨0,⟨Nat.zero_le _,Zbl⟩,rfl⟩
    | (refine ⟨_,⟨?_,ZbS (And.right (by assumption)) ?_⟩,?_,ZbN ?_⟩ <;> first | omega | (simp_all [Prod.ext_iff,EQA]; done))
    | exact (ZeD.2 (fun e=>by subst e; simp_all [EQA])).symm
    | exact (Zff.2 (by have hx:=ZeQ (t:=ZaK) (xs:=a) (ys:=b) (show List.length a=List.length b by omega) (fun j hj=>(by assumption:_≤List.length a∧∀ j,j < _→ZaJ a j=ZaJ b j).2 j (by have hj' : j < List.length a:=hj; omega)); simp_all [Prod.ext_iff,EQA])).symm
    | (rw [Bool.eq_iff_iff]; simp_all [Prod.ext_iff,EQA]; done)
    | (simp_all [Prod.ext_iff,EQA]; done))
def ZsZ:ZaI Tryz.prog:=⟨303,[.v (.list ZaK), .v (.list ZaK)],fun x=>True,fun x=>.c (.bool (Zds x.1 x.2.1)),fun _=>[],fun x hx=>ZsY x.1 x.2.1,Tryz.call303⟩
theorem ZzO (a:Za3) (b:Za3):Zat Tryz.prog 279 [.ag [.int .i64 a.1, .hs .no ZaK a.2.1, .int .i64 a.2.2], .ag [.int .i64 b.1, .hs .no ZaK b.2.1, .int .i64 b.2.2]] (.c (.bool (Zd6 a b))) []:=by
  refine bc0 [ZsZ] [] [] [] L0 Tryz.func279 (fun hwf=>?_)
  refine Eq.mpr (β:=(T8 (bif (neI a.1 b.1) then (True∧(rB false (Zd6 a b))) else (T4 ((pt True)∧(True∧(bif (!(Zds a.2.1 b.2.1)) then (True∧(rB false (Zd6 a b))) else (T5 (bif (neI a.2.2 b.2.2) then (True∧(rB false (Zd6 a b))) else (True∧(rB true (Zd6 a b)))))))))))) (by kernel_rfl) ?_
  simp only [SIA,eq_self]
  repeat' (first | apply And.intro | intro _)
  all_goals (first
    | trivial
    | omega
    | exact (Zf3.2 (fun e=>by subst e; simp_all [EQA])).symm
    | (rw [Bool.eq_iff_iff]; simp_all [Prod.ext_iff,EQA]; done)
    | (simp_all [Prod.ext_iff,EQA]; done))
def ZzP:ZaI Tryz.prog:=⟨279,[.s Zar, .s Zar],fun x=>True,fun x=>.c (.bool (Zd6 x.1 x.2.1)),fun _=>[],fun x hx=>ZzO x.1 x.2.1,Tryz.call279⟩
def Zvr (a:List Za3) (b:List Za3):Nat→List AV→Mem→Zbn
  | 4,tm,M=>⟨Nat,fun y=>(ZcN (ZcV tm [(4, .any),(5, .c (.int .i64 ((y:Nat):Int)))]) 11 16,M),fun y=>(y≤List.length a∧∀ j,j < y→Zav a j=Zav b j),fun y=>(List.length a - y)⟩
  | _,_,_=>⟨Unit,fun _=>([],[]),fun _=>False,fun _=>0⟩
theorem Zvs (a:List Za3) (b:List Za3):Zat Tryz.prog 249 [.c (.hs .no Zar a), .c (.hs .no Zar b)] (.c (.bool (ZdR a b))) []:=by
  refine bc0 [ZzP] [] [] [] (Zvr a b) Tryz.func249 (fun hwf=>?_)
  refine Eq.mpr (β:=(T6 (bif (neI (List.length a) (List.length b)) then (True∧(rB false (ZdR a b))) else (True∧((∃ q:Nat,(q≤List.length a∧∀ j,j < q→Zav a j=Zav b j)∧((lxs [hn Zar a,hn Zar b, .tp [], .tp []] (True∧vI 0 q∧lxs [hn Zar a,ci (List.length a),hn Zar b,ci (List.length b), .c (.bool false)] (TN 16 True)))∧pt (True)))∧∀ y0:Nat,(y0≤List.length a∧∀ j,j < y0→Zav a j=Zav b j)→(T4 (bif (ltI y0 (List.length a)) then ((pt (true=true))∧(T2 ((ix 3 y0 (List.length a))∧(T3 ((ix 3 y0 (List.length b))∧(True∧((pt True)∧(True∧(bif (!(Zd6 (Zav a y0) (Zav b y0))) then (True∧(rB false (ZdR a b))) else (T3 (∃ y0' : Nat,(y0'≤List.length a∧∀ j,j < y0'→Zav a j=Zav b j)∧(List.length a - y0') < (List.length a - y0)∧((lxs [hn Zar a,hn Zar b, .tp [], .tp []] (True∧vI (w64 ((y0:Int) + 1)) y0'∧lxs [hn Zar a,ci (List.length a),hn Zar b,ci (List.length b), .c (.bool false)] (TN 16 True)))∧pt (True))))))))))))) else (True∧(rB true (ZdR a b)))))))))) (by kernel_rfl) ?_
  unfold T2 T3 T4 T6
  simp only [SIA,eq_self]
  have hm0:List.length a≤maxLen:=hwf.1.1
  repeat' (first | apply And.intro | intro _)
  all_goals (first
    | trivial
    | omega
    | exact ⟨0,⟨Nat.zero_le _,Zbl⟩,rfl⟩
    | (refine ⟨_,⟨?_,ZbS (And.right (by assumption)) ?_⟩,?_,ZbN ?_⟩ <;> first | omega | (simp_all [Prod.ext_iff,EQA]; done))
    | exact (Zfa.2 (fun e=>by subst e; simp_all [EQA])).symm
    | exact (Zf4.2 (by have hx:=ZeQ (t:=Zar) (xs:=a) (ys:=b) (show List.length a=List.length b by omega) (fun j hj=>(by assumption:_≤List.length a∧∀ j,j < _→Zav a j=Zav b j).2 j (by have hj' : j < List.length a:=hj; omega)); simp_all [Prod.ext_iff,EQA])).symm
    | (rw [Bool.eq_iff_iff]; simp_all [Prod.ext_iff,EQA]; done)
    | (simp_all [Prod.ext_iff,EQA]; done))
def Zvt:ZaI Tryz.prog:=⟨249,[.v (.list Zar), .v (.list Zar)],fun x=>True,fun x=>.c (.bool (ZdR x.1 x.2.1)),fun _=>[],fun x hx=>Zvs x.1 x.2.1,Tryz.call249⟩
theorem Zvu (a:ZbP) (b:ZbP):Zat Tryz.prog 192 [.ag [.bool a.1, .hs .no Zar a.2], .ag [.bool b.1, .hs .no Zar b.2]] (.c (.bool (ZdS a b))) []:=by
  refine bc0 [Zvt] [] [] [] L0 Tryz.func192 (fun hwf=>?_)
  refine Eq.mpr (β:=(T7 (some TypeDesc.bool=some TypeDesc.bool∧(bif (!eqO a.1 b.1) then (True∧(rB false (ZdS a b))) else (T4 ((pt True)∧(True∧(bif (!(ZdR a.2 b.2)) then (True∧(rB false (ZdS a b))) else (True∧(rB true (ZdS a b))))))))))) (by kernel_rfl) ?_
  simp only [SIA,eq_self]
  repeat' (first | apply And.intro | intro _)
  all_goals (first
    | trivial
    | omega
    | exact (Zfb.2 (fun e=>by subst e; simp_all [EQA])).symm
    | (rw [Bool.eq_iff_iff]; simp_all [Prod.ext_iff,EQA]; done)
    | (simp_all [Prod.ext_iff,EQA]; done))
def Zvv:ZaI Tryz.prog:=⟨192,[.s Zdi, .s Zdi],fun x=>True,fun x=>.c (.bool (ZdS x.1 x.2.1)),fun _=>[],fun x hx=>Zvu x.1 x.2.1,Tryz.call192⟩
theorem ZE1 (a:ZcU) (b:ZcU):Zat Tryz.prog 277 [.ag [.int .i64 a.1, .int .i64 a.2.1, .str a.2.2], .ag [.int .i64 b.1, .int .i64 b.2.1, .str b.2.2]] (.c (.bool (ZhY a b))) []:=by
  refine bc0 [] [] [] [] L0 Tryz.func277 (fun hwf=>?_)
  refine Eq.mpr (β:=(T8 (bif (neI a.1 b.1) then (True∧(rB false (ZhY a b))) else (T5 (bif (neI a.2.1 b.2.1) then (True∧(rB false (ZhY a b))) else (T5 (bif (!eqS a.2.2 b.2.2) then (True∧(rB false (ZhY a b))) else (True∧(rB true (ZhY a b)))))))))) (by kernel_rfl) ?_
  simp only [SIA,eq_self]
  repeat' (first | apply And.intro | intro _)
  all_goals (first
    | trivial
    | omega
    | exact (ZhZ.2 (fun e=>by subst e; simp_all [EQA])).symm
    | (rw [Bool.eq_iff_iff]; simp_all [Prod.ext_iff,EQA]; done)
    | (simp_all [Prod.ext_iff,EQA]; done))
def ZE2:ZaI Tryz.prog:=⟨277,[.s ZaT, .s ZaT],fun x=>True,fun x=>.c (.bool (ZhY x.1 x.2.1)),fun _=>[],fun x hx=>ZE1 x.1 x.2.1,Tryz.call277⟩
def ZCB (a:List ZcU) (b:List ZcU):Nat→List AV→Mem→Zbn
  | 4,tm,M=>⟨Nat,fun y=>(ZcN (ZcV tm [(4, .any),(5, .c (.int .i64 ((y:Nat):Int)))]) 11 16,M),fun y=>(y≤List.length a∧∀ j,j < y→ZaL a j=ZaL b j),fun y=>(List.length a - y)⟩
  | _,_,_=>⟨Unit,fun _=>([],[]),fun _=>False,fun _=>0⟩
theorem ZCC (a:List ZcU) (b:List ZcU):Zat Tryz.prog 247 [.c (.hs .no ZaT a), .c (.hs .no ZaT b)] (.c (.bool (ZgA a b))) []:=by
  refine bc0 [ZE2] [] [] [] (ZCB a b) Tryz.func247 (fun hwf=>?_)
  refine Eq.mpr (β:=(T6 (bif (neI (List.length a) (List.length b)) then (True∧(rB false (ZgA a b))) else (True∧((∃ q:Nat,(q≤List.length a∧∀ j,j < q→ZaL a j=ZaL b j)∧((lxs [hn ZaT a,hn ZaT b, .tp [], .tp []] (True∧vI 0 q∧lxs [hn ZaT a,ci (List.length a),hn ZaT b,ci (List.length b), .c (.bool false)] (TN 16 True)))∧pt (True)))∧∀ y0:Nat,(y0≤List.length a∧∀ j,j < y0→ZaL a j=ZaL b j)→(T4 (bif (ltI y0 (List.length a)) then ((pt (true=true))∧(T2 ((ix 3 y0 (List.length a))∧(T3 ((ix 3 y0 (List.length b))∧(True∧((pt True)∧(True∧(bif (!(ZhY (ZaL a y0) (ZaL b y0))) then (True∧(rB false (ZgA a b))) else (T3 (∃ y0' : Nat,(y0'≤List.length a∧∀ j,j < y0'→ZaL a j=ZaL b j)∧(List.length a - y0') < (List.length a - y0)∧((lxs [hn ZaT a,hn ZaT b, .tp [], .tp []] (True∧vI (w64 ((y0:Int) + 1)) y0'∧lxs [hn ZaT a,ci (List.length a),hn ZaT b,ci (List.length b), .c (.bool false)] (TN 16 True)))∧pt (True))))))))))))) else (True∧(rB true (ZgA a b)))))))))) (by kernel_rfl) ?_
  unfold T2 T3 T4 T6
  simp only [SIA,eq_self]
  have hm0:List.length a≤maxLen:=hwf.1.1
  repeat' (first | apply And.intro | intro _)
  all_goals (first
    | trivial
    | omega
    | exact ⟨0,⟨Nat.zero_le _,Zbl⟩,rfl⟩
    | (refine ⟨_,⟨?_,ZbS (And.right (by assumption)) ?_⟩,?_,ZbN ?_⟩ <;> first | omega | (simp_all [Prod.ext_iff,EQA]; done))
    | exact (ZgY.2 (fun e=>by subst e; simp_all [EQA])).symm
    | exact (Zh0.2 (by have hx:=ZeQ (t:=ZaT) (xs:=a) (ys:=b) (show List.length a=List.length b by omega) (fun j hj=>(by assumption:_≤List.length a∧∀ j,j < _→ZaL a j=ZaL b j).2 j (by have hj' : j < List.length a:=hj; omega)); simp_all [Prod.ext_iff,EQA])).symm
    | (rw [Bool.eq_iff_iff]; simp_all [Prod.ext_iff,EQA]; done)
    | (simp_all [Prod.ext_iff,EQA]; done))
def ZCD:ZaI Tryz.prog:=⟨247,[.v (.list ZaT), .v (.list ZaT)],fun x=>True,fun x=>.c (.bool (ZgA x.1 x.2.1)),fun _=>[],fun x hx=>ZCC x.1 x.2.1,Tryz.call247⟩
theorem ZE3 (a:ZaM) (b:ZaM):Zat Tryz.prog 189 [.ag (cellsOf Zak a), .ag (cellsOf Zak b)] (.c (.bool (ZgZ a b))) []:=by
  refine bc0 [ZCD] [] [] [] L0 Tryz.func189 (fun hwf=>?_)
  refine Eq.mpr (β:=(T8 (bif (!eqS a.1 b.1) then (True∧(rB false (ZgZ a b))) else (T5 (bif (neI a.2.1 b.2.1) then (True∧(rB false (ZgZ a b))) else (T5 (bif (neI a.2.2.1 b.2.2.1) then (True∧(rB false (ZgZ a b))) else (T4 ((pt True)∧(True∧(bif (!(ZgA a.2.2.2 b.2.2.2)) then (True∧(rB false (ZgZ a b))) else (True∧(rB true (ZgZ a b)))))))))))))) (by kernel_rfl) ?_
  simp only [SIA,eq_self]
  repeat' (first | apply And.intro | intro _)
  all_goals (first
    | trivial
    | omega
    | exact (Zh1.2 (fun e=>by subst e; simp_all [EQA])).symm
    | (rw [Bool.eq_iff_iff]; simp_all [Prod.ext_iff,EQA]; done)
    | (simp_all [Prod.ext_iff,EQA]; done))
def ZE4:ZaI Tryz.prog:=⟨189,[.s Zak, .s Zak],fun x=>True,fun x=>.c (.bool (ZgZ x.1 x.2.1)),fun _=>[],fun x hx=>ZE3 x.1 x.2.1,Tryz.call189⟩
def ZCE (a:List ZaM) (b:List ZaM):Nat→List AV→Mem→Zbn
  | 4,tm,M=>⟨Nat,fun y=>(ZcN (ZcV tm [(4, .any),(5, .c (.int .i64 ((y:Nat):Int)))]) 11 16,M),fun y=>(y≤List.length a∧∀ j,j < y→Zab a j=Zab b j),fun y=>(List.length a - y)⟩
  | _,_,_=>⟨Unit,fun _=>([],[]),fun _=>False,fun _=>0⟩
theorem ZCF (a:List ZaM) (b:List ZaM):Zat Tryz.prog 112 [.c (.hs .no Zak a), .c (.hs .no Zak b)] (.c (.bool (ZgB a b))) []:=by
  refine bc0 [ZE4] [] [] [] (ZCE a b) Tryz.func112 (fun hwf=>?_)
  refine Eq.mpr (β:=(T6 (bif (neI (List.length a) (List.length b)) then (True∧(rB false (ZgB a b))) else (True∧((∃ q:Nat,(q≤List.length a∧∀ j,j < q→Zab a j=Zab b j)∧((lxs [hn Zak a,hn Zak b, .tp [], .tp []] (True∧vI 0 q∧lxs [hn Zak a,ci (List.length a),hn Zak b,ci (List.length b), .c (.bool false)] (TN 16 True)))∧pt (True)))∧∀ y0:Nat,(y0≤List.length a∧∀ j,j < y0→Zab a j=Zab b j)→(T4 (bif (ltI y0 (List.length a)) then ((pt (true=true))∧(T2 ((ix 4 y0 (List.length a))∧(T3 ((ix 4 y0 (List.length b))∧(True∧((pt True)∧(True∧(bif (!(ZgZ (Zab a y0) (Zab b y0))) then (True∧(rB false (ZgB a b))) else (T3 (∃ y0' : Nat,(y0'≤List.length a∧∀ j,j < y0'→Zab a j=Zab b j)∧(List.length a - y0') < (List.length a - y0)∧((lxs [hn Zak a,hn Zak b, .tp [], .tp []] (True∧vI (w64 ((y0:Int) + 1)) y0'∧lxs [hn Zak a,ci (List.length a),hn Zak b,ci (List.length b), .c (.bool false)] (TN 16 True)))∧pt (True))))))))))))) else (True∧(rB true (ZgB a b)))))))))) (by kernel_rfl) ?_
  unfold T2 T3 T4 T6
  simp only [SIA,eq_self]
  have hm0:List.length a≤maxLen:=hwf.1.1
  repeat' (first | apply And.intro | intro _)
  all_goals (first
    | trivial
    | omega
    | exact ⟨0,⟨Nat.zero_le _,Zbl⟩,rfl⟩
    | (refine ⟨_,⟨?_,ZbS (And.right (by assumption)) ?_⟩,?_,ZbN ?_⟩ <;> first | omega | (simp_all [Prod.ext_iff,EQA]; done))
    | exact (Zg0.2 (fun e=>by subst e; simp_all [EQA])).symm
    | exact (Zh2.2 (by have hx:=ZeQ (t:=Zak) (xs:=a) (ys:=b) (show List.length a=List.length b by omega) (fun j hj=>(by assumption:_≤List.length a∧∀ j,j < _→Zab a j=Zab b j).2 j (by have hj' : j < List.length a:=hj; omega)); simp_all [Prod.ext_iff,EQA])).symm
    | (rw [Bool.eq_iff_iff]; simp_all [Prod.ext_iff,EQA]; done)
    | (simp_all [Prod.ext_iff,EQA]; done))
def ZCG:ZaI Tryz.prog:=⟨112,[.v (.list Zak), .v (.list Zak)],fun x=>True,fun x=>.c (.bool (ZgB x.1 x.2.1)),fun _=>[],fun x hx=>ZCF x.1 x.2.1,Tryz.call112⟩
theorem Zvw (a:Zax) (b:Zax):Zat Tryz.prog 190 [.ag (cellsOf Zah a), .ag (cellsOf Zah b)] (.c (.bool (Zcy a b))) []:=by
  refine bc0 [] [] [] [] L0 Tryz.func190 (fun hwf=>?_)
  refine Eq.mpr (β:=(T8 (bif (neI a.1 b.1) then (True∧(rB false (Zcy a b))) else (T5 (bif (neI a.2.1 b.2.1) then (True∧(rB false (Zcy a b))) else (T5 (bif (neI a.2.2.1 b.2.2.1) then (True∧(rB false (Zcy a b))) else (T5 (bif (neI a.2.2.2.1 b.2.2.2.1) then (True∧(rB false (Zcy a b))) else (T5 (bif (!eqS a.2.2.2.2.1 b.2.2.2.2.1) then (True∧(rB false (Zcy a b))) else (T5 (bif (!eqS a.2.2.2.2.2 b.2.2.2.2.2) then (True∧(rB false (Zcy a b))) else (True∧(rB true (Zcy a b)))))))))))))))) (by kernel_rfl) ?_
  unfold T5 T8
  simp only [SIA,eq_self]
  repeat' (first | apply And.intro | intro _)
  all_goals (first
    | trivial
    | omega
    | exact (Zfc.2 (fun e=>by subst e; simp_all [EQA])).symm
    | (rw [Bool.eq_iff_iff]; simp_all [Prod.ext_iff,EQA]; done)
    | (simp_all [Prod.ext_iff,EQA]; done))
def Zvx:ZaI Tryz.prog:=⟨190,[.s Zah, .s Zah],fun x=>True,fun x=>.c (.bool (Zcy x.1 x.2.1)),fun _=>[],fun x hx=>Zvw x.1 x.2.1,Tryz.call190⟩
def Zs0 (a:List Zax) (b:List Zax):Nat→List AV→Mem→Zbn
  | 4,tm,M=>⟨Nat,fun y=>(ZcN (ZcV tm [(4, .any),(5, .c (.int .i64 ((y:Nat):Int)))]) 11 16,M),fun y=>(y≤List.length a∧∀ j,j < y→Zac a j=Zac b j),fun y=>(List.length a - y)⟩
  | _,_,_=>⟨Unit,fun _=>([],[]),fun _=>False,fun _=>0⟩
theorem Zs1 (a:List Zax) (b:List Zax):Zat Tryz.prog 113 [.c (.hs .no Zah a), .c (.hs .no Zah b)] (.c (.bool (Zdr a b))) []:=by
  refine bc0 [Zvx] [] [] [] (Zs0 a b) Tryz.func113 (fun hwf=>?_)
  refine Eq.mpr (β:=(T6 (bif (neI (List.length a) (List.length b)) then (True∧(rB false (Zdr a b))) else (True∧((∃ q:Nat,(q≤List.length a∧∀ j,j < q→Zac a j=Zac b j)∧((lxs [hn Zah a,hn Zah b, .tp [], .tp []] (True∧vI 0 q∧lxs [hn Zah a,ci (List.length a),hn Zah b,ci (List.length b), .c (.bool false)] (TN 16 True)))∧pt (True)))∧∀ y0:Nat,(y0≤List.length a∧∀ j,j < y0→Zac a j=Zac b j)→(T4 (bif (ltI y0 (List.length a)) then ((pt (true=true))∧(T2 ((ix 6 y0 (List.length a))∧(T3 ((ix 6 y0 (List.length b))∧(True∧((pt True)∧(True∧(bif (!(Zcy (Zac a y0) (Zac b y0))) then (True∧(rB false (Zdr a b))) else (T3 (∃ y0' : Nat,(y0'≤List.length a∧∀ j,j < y0'→Zac a j=Zac b j)∧(List.length a - y0') < (List.length a - y0)∧((lxs [hn Zah a,hn Zah b, .tp [], .tp []] (True∧vI (w64 ((y0:Int) + 1)) y0'∧lxs [hn Zah a,ci (List.length a),hn Zah b,ci (List.length b), .c (.bool false)] (TN 16 True)))∧pt (True))))))))))))) else (True∧(rB true (Zdr a b)))))))))) (by kernel_rfl) ?_
  unfold T2 T3 T4 T6
  simp only [SIA,eq_self]
  have hm0:List.length a≤maxLen:=hwf.1.1
  repeat' (first | apply And.intro | intro _)
  all_goals (first
    | trivial
    | omega
    | exact ⟨0,⟨Nat.zero_le _,Zbl⟩,rfl⟩
    | (refine ⟨_,⟨?_,ZbS (And.right (by assumption)) ?_⟩,?_,ZbN ?_⟩ <;> first | omega | (simp_all [Prod.ext_iff,EQA]; done))
    | exact (ZeA.2 (fun e=>by subst e; simp_all [EQA])).symm
    | exact (Zfd.2 (by have hx:=ZeQ (t:=Zah) (xs:=a) (ys:=b) (show List.length a=List.length b by omega) (fun j hj=>(by assumption:_≤List.length a∧∀ j,j < _→Zac a j=Zac b j).2 j (by have hj' : j < List.length a:=hj; omega)); simp_all [Prod.ext_iff,EQA])).symm
    | (rw [Bool.eq_iff_iff]; simp_all [Prod.ext_iff,EQA]; done)
    | (simp_all [Prod.ext_iff,EQA]; done))
def Zs2:ZaI Tryz.prog:=⟨113,[.v (.list Zah), .v (.list Zah)],fun x=>True,fun x=>.c (.bool (Zdr x.1 x.2.1)),fun _=>[],fun x hx=>Zs1 x.1 x.2.1,Tryz.call113⟩
theorem ZzQ (a:Za7) (b:Za7):Zat Tryz.prog 43 [.ag (cellsOf ZbI a), .ag (cellsOf ZbI b)] (.c (.bool (Zd7 a b))) []:=by
  refine bc0 [ZCG,Zs2] [] [] [] L0 Tryz.func43 (fun hwf=>?_)
  refine Eq.mpr (β:=(T7 ((pt True)∧(True∧(bif (!(ZgB a.1 b.1)) then (True∧(rB false (Zd7 a b))) else (T4 ((pt True)∧(True∧(bif (!(Zdr a.2.1 b.2.1)) then (True∧(rB false (Zd7 a b))) else (T5 (bif (neI a.2.2 b.2.2) then (True∧(rB false (Zd7 a b))) else (True∧(rB true (Zd7 a b)))))))))))))) (by kernel_rfl) ?_
  simp only [SIA,eq_self]
  repeat' (first | apply And.intro | intro _)
  all_goals (first
    | trivial
    | omega
    | exact (Zf6.2 (fun e=>by subst e; simp_all [EQA])).symm
    | (rw [Bool.eq_iff_iff]; simp_all [Prod.ext_iff,EQA]; done)
    | (simp_all [Prod.ext_iff,EQA]; done))
def ZzR:ZaI Tryz.prog:=⟨43,[.s ZbI, .s ZbI],fun x=>True,fun x=>.c (.bool (Zd7 x.1 x.2.1)),fun _=>[],fun x hx=>ZzQ x.1 x.2.1,Tryz.call43⟩
theorem ZCH (a:Zb9) (b:Zb9):Zat Tryz.prog 278 [.ag [.int .i64 a.1, .int .i64 a.2], .ag [.int .i64 b.1, .int .i64 b.2]] (.c (.bool (Zgy a b))) []:=by
  refine bc0 [] [] [] [] L0 Tryz.func278 (fun hwf=>?_)
  refine Eq.mpr (β:=(T8 (bif (neI a.1 b.1) then (True∧(rB false (Zgy a b))) else (T5 (bif (neI a.2 b.2) then (True∧(rB false (Zgy a b))) else (True∧(rB true (Zgy a b)))))))) (by kernel_rfl) ?_
  simp only [SIA,eq_self]
  repeat' (first | apply And.intro | intro _)
  all_goals (first
    | trivial
    | omega
    | exact (ZgW.2 (fun e=>by subst e; simp_all [EQA])).symm
    | (rw [Bool.eq_iff_iff]; simp_all [Prod.ext_iff,EQA]; done)
    | (simp_all [Prod.ext_iff,EQA]; done))
def ZCI:ZaI Tryz.prog:=⟨278,[.s ZaN, .s ZaN],fun x=>True,fun x=>.c (.bool (Zgy x.1 x.2.1)),fun _=>[],fun x hx=>ZCH x.1 x.2.1,Tryz.call278⟩
def ZzS (a:List Zb9) (b:List Zb9):Nat→List AV→Mem→Zbn
  | 4,tm,M=>⟨Nat,fun y=>(ZcN (ZcV tm [(4, .any),(5, .c (.int .i64 ((y:Nat):Int)))]) 11 16,M),fun y=>(y≤List.length a∧∀ j,j < y→ZbE a j=ZbE b j),fun y=>(List.length a - y)⟩
  | _,_,_=>⟨Unit,fun _=>([],[]),fun _=>False,fun _=>0⟩
theorem ZzT (a:List Zb9) (b:List Zb9):Zat Tryz.prog 248 [.c (.hs .no ZaN a), .c (.hs .no ZaN b)] (.c (.bool (ZcS a b))) []:=by
  refine bc0 [ZCI] [] [] [] (ZzS a b) Tryz.func248 (fun hwf=>?_)
  refine Eq.mpr (β:=(T6 (bif (neI (List.length a) (List.length b)) then (True∧(rB false (ZcS a b))) else (True∧((∃ q:Nat,(q≤List.length a∧∀ j,j < q→ZbE a j=ZbE b j)∧((lxs [hn ZaN a,hn ZaN b, .tp [], .tp []] (True∧vI 0 q∧lxs [hn ZaN a,ci (List.length a),hn ZaN b,ci (List.length b), .c (.bool false)] (TN 16 True)))∧pt (True)))∧∀ y0:Nat,(y0≤List.length a∧∀ j,j < y0→ZbE a j=ZbE b j)→(T4 (bif (ltI y0 (List.length a)) then ((pt (true=true))∧(T2 ((ix 2 y0 (List.length a))∧(T3 ((ix 2 y0 (List.length b))∧(True∧((pt True)∧(True∧(bif (!(Zgy (ZbE a y0) (ZbE b y0))) then (True∧(rB false (ZcS a b))) else (T3 (∃ y0' : Nat,(y0'≤List.length a∧∀ j,j < y0'→ZbE a j=ZbE b j)∧(List.length a - y0') < (List.length a - y0)∧((lxs [hn ZaN a,hn ZaN b, .tp [], .tp []] (True∧vI (w64 ((y0:Int) + 1)) y0'∧lxs [hn ZaN a,ci (List.length a),hn ZaN b,ci (List.length b), .c (.bool false)] (TN 16 True)))∧pt (True))))))))))))) else (True∧(rB true (ZcS a b)))))))))) (by kernel_rfl) ?_
  unfold T2 T3 T4 T6
  simp only [SIA,eq_self]
  have hm0:List.length a≤maxLen:=hwf.1.1
  repeat' (first | apply And.intro | intro _)
  all_goals (first
    | trivial
    | omega
    | exact ⟨0,⟨Nat.zero_le _,Zbl⟩,rfl⟩
    | (refine ⟨_,⟨?_,ZbS (And.right (by assumption)) ?_⟩,?_,ZbN ?_⟩ <;> first | omega | (simp_all [Prod.ext_iff,EQA]; done))
    | exact (Zd5.2 (fun e=>by subst e; simp_all [EQA])).symm
    | exact (ZgX.2 (by have hx:=ZeQ (t:=ZaN) (xs:=a) (ys:=b) (show List.length a=List.length b by omega) (fun j hj=>(by assumption:_≤List.length a∧∀ j,j < _→ZbE a j=ZbE b j).2 j (by have hj' : j < List.length a:=hj; omega)); simp_all [Prod.ext_iff,EQA])).symm
    | (rw [Bool.eq_iff_iff]; simp_all [Prod.ext_iff,EQA]; done)
    | (simp_all [Prod.ext_iff,EQA]; done))
def ZzU:ZaI Tryz.prog:=⟨248,[.v (.list ZaN), .v (.list ZaN)],fun x=>True,fun x=>.c (.bool (ZcS x.1 x.2.1)),fun _=>[],fun x hx=>ZzT x.1 x.2.1,Tryz.call248⟩
theorem ZCJ (a:List Zb9) (b:List Zb9):Zat Tryz.prog 191 [.ag [.hs .no ZaN a], .ag [.hs .no ZaN b]] (.c (.bool (ZcS a b))) []:=by
  refine bc0 [ZzU] [] [] [] L0 Tryz.func191 (fun hwf=>?_)
  refine Eq.mpr (β:=(T7 ((pt True)∧(True∧(bif (!(ZcS a b)) then (True∧(rB false (ZcS a b))) else (True∧(rB true (ZcS a b)))))))) (by kernel_rfl) ?_
  simp only [SIA,eq_self]
  repeat' (first | apply And.intro | intro _)
  all_goals (first
    | trivial
    | omega
    | exact (Zd5.2 (fun e=>by subst e; simp_all [EQA])).symm
    | (rw [Bool.eq_iff_iff]; simp_all [Prod.ext_iff,EQA]; done)
    | (simp_all [Prod.ext_iff,EQA]; done))
def ZCK:ZaI Tryz.prog:=⟨191,[.s (.list ZaN), .s (.list ZaN)],fun x=>True,fun x=>.c (.bool (ZcS x.1 x.2.1)),fun _=>[],fun x hx=>ZCJ x.1 x.2.1,Tryz.call191⟩
theorem ZCL (a:Zay) (b:Zay):Zat Tryz.prog 280 [.ag (cellsOf Zai a), .ag (cellsOf Zai b)] (.c (.bool (ZeI a b))) []:=by
  refine bc0 [] [] [] [] L0 Tryz.func280 (fun hwf=>?_)
  refine Eq.mpr (β:=(T8 (bif (neI a.1 b.1) then (True∧(rB false (ZeI a b))) else (T5 (bif (neI a.2.1 b.2.1) then (True∧(rB false (ZeI a b))) else (T5 (bif (neI a.2.2.1 b.2.2.1) then (True∧(rB false (ZeI a b))) else (T5 (bif (!eqS a.2.2.2 b.2.2.2) then (True∧(rB false (ZeI a b))) else (True∧(rB true (ZeI a b)))))))))))) (by kernel_rfl) ?_
  simp only [SIA,eq_self]
  repeat' (first | apply And.intro | intro _)
  all_goals (first
    | trivial
    | omega
    | exact (Zg1.2 (fun e=>by subst e; simp_all [EQA])).symm
    | (rw [Bool.eq_iff_iff]; simp_all [Prod.ext_iff,EQA]; done)
    | (simp_all [Prod.ext_iff,EQA]; done))
def ZCM:ZaI Tryz.prog:=⟨280,[.s Zai, .s Zai],fun x=>True,fun x=>.c (.bool (ZeI x.1 x.2.1)),fun _=>[],fun x hx=>ZCL x.1 x.2.1,Tryz.call280⟩
def ZzV (a:List Zay) (b:List Zay):Nat→List AV→Mem→Zbn
  | 4,tm,M=>⟨Nat,fun y=>(ZcN (ZcV tm [(4, .any),(5, .c (.int .i64 ((y:Nat):Int)))]) 11 16,M),fun y=>(y≤List.length a∧∀ j,j < y→Zaf a j=Zaf b j),fun y=>(List.length a - y)⟩
  | _,_,_=>⟨Unit,fun _=>([],[]),fun _=>False,fun _=>0⟩
theorem ZzW (a:List Zay) (b:List Zay):Zat Tryz.prog 250 [.c (.hs .no Zai a), .c (.hs .no Zai b)] (.c (.bool (ZeS a b))) []:=by
  refine bc0 [ZCM] [] [] [] (ZzV a b) Tryz.func250 (fun hwf=>?_)
  refine Eq.mpr (β:=(T6 (bif (neI (List.length a) (List.length b)) then (True∧(rB false (ZeS a b))) else (True∧((∃ q:Nat,(q≤List.length a∧∀ j,j < q→Zaf a j=Zaf b j)∧((lxs [hn Zai a,hn Zai b, .tp [], .tp []] (True∧vI 0 q∧lxs [hn Zai a,ci (List.length a),hn Zai b,ci (List.length b), .c (.bool false)] (TN 16 True)))∧pt (True)))∧∀ y0:Nat,(y0≤List.length a∧∀ j,j < y0→Zaf a j=Zaf b j)→(T4 (bif (ltI y0 (List.length a)) then ((pt (true=true))∧(T2 ((ix 4 y0 (List.length a))∧(T3 ((ix 4 y0 (List.length b))∧(True∧((pt True)∧(True∧(bif (!(ZeI (Zaf a y0) (Zaf b y0))) then (True∧(rB false (ZeS a b))) else (T3 (∃ y0' : Nat,(y0'≤List.length a∧∀ j,j < y0'→Zaf a j=Zaf b j)∧(List.length a - y0') < (List.length a - y0)∧((lxs [hn Zai a,hn Zai b, .tp [], .tp []] (True∧vI (w64 ((y0:Int) + 1)) y0'∧lxs [hn Zai a,ci (List.length a),hn Zai b,ci (List.length b), .c (.bool false)] (TN 16 True)))∧pt (True))))))))))))) else (True∧(rB true (ZeS a b)))))))))) (by kernel_rfl) ?_
  unfold T2 T3 T4 T6
  simp only [SIA,eq_self]
  have hm0:List.length a≤maxLen:=hwf.1.1
  repeat' (first | apply And.intro | intro _)
  all_goals (first
    | trivial
    | omega
    | exact ⟨0,⟨Nat.zero_le _,Zbl⟩,rfl⟩
    | (refine ⟨_,⟨?_,ZbS (And.right (by assumption)) ?_⟩,?_,ZbN ?_⟩ <;> first | omega | (simp_all [Prod.ext_iff,EQA]; done))
    | exact (Zf7.2 (fun e=>by subst e; simp_all [EQA])).symm
    | exact (Zg2.2 (by have hx:=ZeQ (t:=Zai) (xs:=a) (ys:=b) (show List.length a=List.length b by omega) (fun j hj=>(by assumption:_≤List.length a∧∀ j,j < _→Zaf a j=Zaf b j).2 j (by have hj' : j < List.length a:=hj; omega)); simp_all [Prod.ext_iff,EQA])).symm
    | (rw [Bool.eq_iff_iff]; simp_all [Prod.ext_iff,EQA]; done)
    | (simp_all [Prod.ext_iff,EQA]; done))
def ZzX:ZaI Tryz.prog:=⟨250,[.v (.list Zai), .v (.list Zai)],fun x=>True,fun x=>.c (.bool (ZeS x.1 x.2.1)),fun _=>[],fun x hx=>ZzW x.1 x.2.1,Tryz.call250⟩
theorem ZzY (a:ZaU) (b:ZaU):Zat Tryz.prog 193 [.ag [.hs .no Zai a.1, .bool a.2.1, .bool a.2.2], .ag [.hs .no Zai b.1, .bool b.2.1, .bool b.2.2]] (.c (.bool (Zd8 a b))) []:=by
  refine bc0 [ZzX] [] [] [] L0 Tryz.func193 (fun hwf=>?_)
  refine Eq.mpr (β:=(T7 ((pt True)∧(True∧(bif (!(ZeS a.1 b.1)) then (True∧(rB false (Zd8 a b))) else (T4 (some TypeDesc.bool=some TypeDesc.bool∧(bif (!eqO a.2.1 b.2.1) then (True∧(rB false (Zd8 a b))) else (T4 (some TypeDesc.bool=some TypeDesc.bool∧(bif (!eqO a.2.2 b.2.2) then (True∧(rB false (Zd8 a b))) else (True∧(rB true (Zd8 a b)))))))))))))) (by kernel_rfl) ?_
  simp only [SIA,eq_self]
  repeat' (first | apply And.intro | intro _)
  all_goals (first
    | trivial
    | omega
    | exact (Zf8.2 (fun e=>by subst e; simp_all [EQA])).symm
    | (rw [Bool.eq_iff_iff]; simp_all [Prod.ext_iff,EQA]; done)
    | (simp_all [Prod.ext_iff,EQA]; done))
def ZzZ:ZaI Tryz.prog:=⟨193,[.s ZbJ, .s ZbJ],fun x=>True,fun x=>.c (.bool (Zd8 x.1 x.2.1)),fun _=>[],fun x hx=>ZzY x.1 x.2.1,Tryz.call193⟩
theorem ZE5 (a:Zxj) (b:Zxj):Zat Tryz.prog 195 [.ag [.str a.1, .str a.2], .ag [.str b.1, .str b.2]] (.c (.bool (Zi1 a b))) []:=by
  refine bc0 [] [] [] [] L0 Tryz.func195 (fun hwf=>?_)
  refine Eq.mpr (β:=(T8 (bif (!eqS a.1 b.1) then (True∧(rB false (Zi1 a b))) else (T5 (bif (!eqS a.2 b.2) then (True∧(rB false (Zi1 a b))) else (True∧(rB true (Zi1 a b)))))))) (by kernel_rfl) ?_
  simp only [SIA,eq_self]
  repeat' (first | apply And.intro | intro _)
  all_goals (first
    | trivial
    | omega
    | exact (Zh3.2 (fun e=>by subst e; simp_all [EQA])).symm
    | (rw [Bool.eq_iff_iff]; simp_all [Prod.ext_iff,EQA]; done)
    | (simp_all [Prod.ext_iff,EQA]; done))
def ZE6:ZaI Tryz.prog:=⟨195,[.s Zm4, .s Zm4],fun x=>True,fun x=>.c (.bool (Zi1 x.1 x.2.1)),fun _=>[],fun x hx=>ZE5 x.1 x.2.1,Tryz.call195⟩
theorem ZGS (a:GIn) (b:GIn):Zat Tryz.prog 194 [.ag [.str a.1, .bool a.2], .ag [.str b.1, .bool b.2]] (.c (.bool (ZmA a b))) []:=by
  refine bc0 [] [] [] [] L0 Tryz.func194 (fun hwf=>?_)
  refine Eq.mpr (β:=(T8 (bif (!eqS a.1 b.1) then (True∧(rB false (ZmA a b))) else (T4 (some TypeDesc.bool=some TypeDesc.bool∧(bif (!eqO a.2 b.2) then (True∧(rB false (ZmA a b))) else (True∧(rB true (ZmA a b))))))))) (by kernel_rfl) ?_
  simp only [SIA,eq_self]
  repeat' (first | apply And.intro | intro _)
  all_goals (first
    | trivial
    | omega
    | exact (Zi2.2 (fun e=>by subst e; simp_all [EQA])).symm
    | (rw [Bool.eq_iff_iff]; simp_all [Prod.ext_iff,EQA]; done)
    | (simp_all [Prod.ext_iff,EQA]; done))
def ZGT:ZaI Tryz.prog:=⟨194,[.s ZCX, .s ZCX],fun x=>True,fun x=>.c (.bool (ZmA x.1 x.2.1)),fun _=>[],fun x hx=>ZGS x.1 x.2.1,Tryz.call194⟩
def ZeF (a:Zal) (b:Zal):Prop:=(True∧(rB false (ZdP a b)))
theorem Zs3 (a:Zal) (b:Zal):Zat Tryz.prog 114 [.ag (cellsOf Zae a), .ag (cellsOf Zae b)] (.c (.bool (ZdP a b))) []:=by
  refine bc0 [ZCK,Zvv,ZzZ,ZGT,ZE6] [] [] [] L0 Tryz.func114 (fun hwf=>?_)
  refine Eq.mpr (β:=(T7 (some TypeDesc.bool=some TypeDesc.bool∧(bif (!eqO a.1 b.1) then (ZeF a b) else (T5 (bif (neI a.2.1 b.2.1) then (ZeF a b) else (T5 (bif (neI a.2.2.1 b.2.2.1) then (ZeF a b) else (T5 (bif (neI a.2.2.2.1 b.2.2.2.1) then (ZeF a b) else (T4 ((pt True)∧(True∧(bif (!(ZcS a.2.2.2.2.1 b.2.2.2.2.1)) then (ZeF a b) else (T4 ((pt True)∧(True∧(bif (!(ZdS a.2.2.2.2.2.1 b.2.2.2.2.2.1)) then (ZeF a b) else (T5 (bif (!eqS a.2.2.2.2.2.2.1 b.2.2.2.2.2.2.1) then (ZeF a b) else (T5 (bif (!eqS a.2.2.2.2.2.2.2.1 b.2.2.2.2.2.2.2.1) then (ZeF a b) else (T4 ((pt True)∧(True∧(bif (!(Zd8 a.2.2.2.2.2.2.2.2.1 b.2.2.2.2.2.2.2.2.1)) then (ZeF a b) else (T4 ((pt True)∧(True∧(bif (!(ZmA a.2.2.2.2.2.2.2.2.2.1 b.2.2.2.2.2.2.2.2.2.1)) then (ZeF a b) else (T4 ((pt True)∧(True∧(bif (!(Zi1 a.2.2.2.2.2.2.2.2.2.2.1 b.2.2.2.2.2.2.2.2.2.2.1)) then (ZeF a b) else (T5 (bif (neI a.2.2.2.2.2.2.2.2.2.2.2 b.2.2.2.2.2.2.2.2.2.2.2) then (ZeF a b) else (True∧(rB true (ZdP a b))))))))))))))))))))))))))))))))))))))) (by kernel_rfl) ?_
  unfold ZeF T4 T5 T7
  simp only [SIA,eq_self]
  repeat' (first | apply And.intro | intro _)
  all_goals (first
    | trivial
    | omega
    | exact (ZeB.2 (fun e=>by subst e; simp_all [EQA])).symm
    | (rw [Bool.eq_iff_iff]; simp_all [Prod.ext_iff,EQA]; done)
    | (simp_all [Prod.ext_iff,EQA]; done))
def Zs4:ZaI Tryz.prog:=⟨114,[.s Zae, .s Zae],fun x=>True,fun x=>.c (.bool (ZdP x.1 x.2.1)),fun _=>[],fun x hx=>Zs3 x.1 x.2.1,Tryz.call114⟩
def Zqs (a:List Zal) (b:List Zal):Nat→List AV→Mem→Zbn
  | 4,tm,M=>⟨Nat,fun y=>(ZcN (ZcV tm [(4, .any),(5, .c (.int .i64 ((y:Nat):Int)))]) 11 16,M),fun y=>(y≤List.length a∧∀ j,j < y→Zaa a j=Zaa b j),fun y=>(List.length a - y)⟩
  | _,_,_=>⟨Unit,fun _=>([],[]),fun _=>False,fun _=>0⟩
theorem Zqt (a:List Zal) (b:List Zal):Zat Tryz.prog 44 [.c (.hs .no Zae a), .c (.hs .no Zae b)] (.c (.bool (ZcZ a b))) []:=by
  refine bc0 [Zs4] [] [] [] (Zqs a b) Tryz.func44 (fun hwf=>?_)
  refine Eq.mpr (β:=(T6 (bif (neI (List.length a) (List.length b)) then (True∧(rB false (ZcZ a b))) else (True∧((∃ q:Nat,(q≤List.length a∧∀ j,j < q→Zaa a j=Zaa b j)∧((lxs [hn Zae a,hn Zae b, .tp [], .tp []] (True∧vI 0 q∧lxs [hn Zae a,ci (List.length a),hn Zae b,ci (List.length b), .c (.bool false)] (TN 16 True)))∧pt (True)))∧∀ y0:Nat,(y0≤List.length a∧∀ j,j < y0→Zaa a j=Zaa b j)→(T4 (bif (ltI y0 (List.length a)) then ((pt (true=true))∧(T2 ((ix 17 y0 (List.length a))∧(T3 ((ix 17 y0 (List.length b))∧(True∧((pt True)∧(True∧(bif (!(ZdP (Zaa a y0) (Zaa b y0))) then (True∧(rB false (ZcZ a b))) else (T3 (∃ y0' : Nat,(y0'≤List.length a∧∀ j,j < y0'→Zaa a j=Zaa b j)∧(List.length a - y0') < (List.length a - y0)∧((lxs [hn Zae a,hn Zae b, .tp [], .tp []] (True∧vI (w64 ((y0:Int) + 1)) y0'∧lxs [hn Zae a,ci (List.length a),hn Zae b,ci (List.length b), .c (.bool false)] (TN 16 True)))∧pt (True))))))))))))) else (True∧(rB true (ZcZ a b)))))))))) (by kernel_rfl) ?_
  unfold T2 T3 T4 T6
  simp only [SIA,eq_self]
  have hm0:List.length a≤maxLen:=hwf.1.1
  repeat' (first | apply And.intro | intro _)
  all_goals (first
    | trivial
    | omega
    | exact ⟨0,⟨Nat.zero_le _,Zbl⟩,rfl⟩
    | (refine ⟨_,⟨?_,ZbS (And.right (by assumption)) ?_⟩,?_,ZbN ?_⟩ <;> first | omega | (simp_all [Prod.ext_iff,EQA]; done))
    | exact (Zd9.2 (fun e=>by subst e; simp_all [EQA])).symm
    | exact (ZeC.2 (by have hx:=ZeQ (t:=Zae) (xs:=a) (ys:=b) (show List.length a=List.length b by omega) (fun j hj=>(by assumption:_≤List.length a∧∀ j,j < _→Zaa a j=Zaa b j).2 j (by have hj' : j < List.length a:=hj; omega)); simp_all [Prod.ext_iff,EQA])).symm
    | (rw [Bool.eq_iff_iff]; simp_all [Prod.ext_iff,EQA]; done)
    | (simp_all [Prod.ext_iff,EQA]; done))
def Zqu:ZaI Tryz.prog:=⟨44,[.v (.list Zae), .v (.list Zae)],fun x=>True,fun x=>.c (.bool (ZcZ x.1 x.2.1)),fun _=>[],fun x hx=>Zqt x.1 x.2.1,Tryz.call44⟩
theorem Zvy (a:Za6) (b:Za6):Zat Tryz.prog 13 [.ag (cellsOf Zbp a), .ag (cellsOf Zbp b)] (.c (.bool (Zcz a b))) []:=by
  refine bc0 [ZzR,Zqu] [] [] [] L0 Tryz.func13 (fun hwf=>?_)
  refine Eq.mpr (β:=(T7 ((pt True)∧(True∧(bif (!(Zd7 a.1 b.1)) then (True∧(rB false (Zcz a b))) else (T4 ((pt True)∧(True∧(bif (!(ZcZ a.2 b.2)) then (True∧(rB false (Zcz a b))) else (True∧(rB true (Zcz a b)))))))))))) (by kernel_rfl) ?_
  simp only [SIA,eq_self]
  repeat' (first | apply And.intro | intro _)
  all_goals (first
    | trivial
    | omega
    | exact (Zfe.2 (fun e=>by subst e; simp_all [EQA])).symm
    | (rw [Bool.eq_iff_iff]; simp_all [Prod.ext_iff,EQA]; done)
    | (simp_all [Prod.ext_iff,EQA]; done))
def Zvz:ZaI Tryz.prog:=⟨13,[.s Zbp, .s Zbp],fun x=>True,fun x=>.c (.bool (Zcz x.1 x.2.1)),fun _=>[],fun x hx=>Zvy x.1 x.2.1,Tryz.call13⟩
end Go.Proofs.YtkompmgleojmlaaGreat
