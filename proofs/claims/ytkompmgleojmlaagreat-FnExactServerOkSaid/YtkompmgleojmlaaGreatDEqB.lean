import Derived.Test.YtkompmgleojmlaaGreatDBmTy
set_option linter.unusedSimpArgs false
set_option linter.unusedVariables false
set_option maxRecDepth 100000
set_option maxHeartbeats 4000000
namespace Go.Proofs.YtkompmgleojmlaaGreat
open Go.ChangeShapes Go.WideShapes Go.ChangeAt Go.RowKit Go.Joins Go.Deep
open GoRep (rep bulk)
def Zsl (a:List ByteArray) (b:List ByteArray):Nat→List AV→Mem→Za3
  | 4,tm,M=>⟨Nat,fun y=>(Zb2 (Zcx tm [(4, .any),(5, .c (.int .i64 ((y:Nat):Int)))]) 11 15,M),fun y=>(y≤List.length a∧∀ j,j < y→Zas a j=Zas b j),fun y=>(List.length a - y)⟩
  | _,_,_=>⟨Unit,fun _=>([],[]),fun _=>False,fun _=>0⟩
theorem Zsm (a:List ByteArray) (b:List ByteArray):Zai Tryz.prog 303 [.c (.hs .no ZaL a), .c (.hs .no ZaL b)] (.c (.bool (Za8 a b))) []:=by
  refine bc0 [] [] [] [] (Zsl a b) Tryz.func303 (fun hwf=>?_)
  refine Eq.mpr (β:=(T6 (bif (neI (List.length a) (List.length b)) then (True∧(rB false (Za8 a b))) else (True∧((∃ q:Nat,(q≤List.length a∧∀ j,j < q→Zas a j=Zas b j)∧((lxs [hn ZaL a,hn ZaL b, .tp [], .tp []] (True∧vI 0 q∧lxs [hn ZaL a,ci (List.length a),hn ZaL b,ci (List.length b), .c (.bool false)] (TN 15 True)))∧pt (True)))∧∀ y0:Nat,(y0≤List.length a∧∀ j,j < y0→Zas a j=Zas b j)→(T4 (bif (ltI y0 (List.length a)) then ((pt (true=true))∧(T2 ((ix 1 y0 (List.length a))∧(T3 ((ix 1 y0 (List.length b))∧(T2 (bif (!eqS (Zas a y0) (Zas b y0)) then (True∧(rB false (Za8 a b))) else (T3 (∃ y0' : Nat,(y0'≤List.length a∧∀ j,j < y0'→Zas a j=Zas b j)∧(List.length a - y0') < (List.length a - y0)∧((lxs [hn ZaL a,hn ZaL b, .tp [], .tp []] (True∧vI (w64 ((y0:Int) + 1)) y0'∧lxs [hn ZaL a,ci (List.length a),hn ZaL b,ci (List.length b), .c (.bool false)] (TN 15 True)))∧pt (True))))))))))) else (True∧(rB true (Za8 a b)))))))))) (by kernel_rfl) ?_
  unfold T2 T3 T4 T6
  simp only [SIA,eq_self]
  have hm0:List.length a≤maxLen:=hwf.1.1
  repeat' (first | apply And.intro | intro _)
  all_goals (first
    | trivial
    | omega
    | exact ⟨0,⟨Nat.zero_le _,ZaH⟩,rfl⟩
    | (refine ⟨_,⟨?_,ZaD (And.right (by assumption)) ?_⟩,?_,Zbj ?_⟩ <;> first | omega | (simp_all [Prod.ext_iff,EQA]; done))
    | exact (ZbG.2 (fun e=>by subst e; simp_all [EQA])).symm
    | exact (ZcP.2 (by have hx:=ZbE (t:=ZaL) (xs:=a) (ys:=b) (show List.length a=List.length b by omega) (fun j hj=>(by assumption:_≤List.length a∧∀ j,j < _→Zas a j=Zas b j).2 j (by have hj' : j < List.length a:=hj; omega)); simp_all [Prod.ext_iff,EQA])).symm
    | (rw [Bool.eq_iff_iff]; simp_all [Prod.ext_iff,EQA]; done)
    | (simp_all [Prod.ext_iff,EQA]; done))
def Zsn:Zat Tryz.prog:=⟨303,[.v (.list ZaL), .v (.list ZaL)],fun x=>True,fun x=>.c (.bool (Za8 x.1 x.2.1)),fun _=>[],fun x hx=>Zsm x.1 x.2.1,Tryz.call303⟩
theorem Zzr (a:ZaK) (b:ZaK):Zai Tryz.prog 279 [.ag [.int .i64 a.1, .hs .no ZaL a.2.1, .int .i64 a.2.2], .ag [.int .i64 b.1, .hs .no ZaL b.2.1, .int .i64 b.2.2]] (.c (.bool (ZbT a b))) []:=by
  refine bc0 [Zsn] [] [] [] L0 Tryz.func279 (fun hwf=>?_)
  refine Eq.mpr (β:=(T8 (bif (neI a.1 b.1) then (True∧(rB false (ZbT a b))) else (T4 ((pt True)∧(True∧(bif (!(Za8 a.2.1 b.2.1)) then (True∧(rB false (ZbT a b))) else (T5 (bif (neI a.2.2 b.2.2) then (True∧(rB false (ZbT a b))) else (True∧(rB true (ZbT a b)))))))))))) (by kernel_rfl) ?_
  simp only [SIA,eq_self]
  repeat' (first | apply And.intro | intro _)
  all_goals (first
    | trivial
    | omega
    | exact (Zfj.2 (fun e=>by subst e; simp_all [EQA])).symm
    | (rw [Bool.eq_iff_iff]; simp_all [Prod.ext_iff,EQA]; done)
    | (simp_all [Prod.ext_iff,EQA]; done))
def Zzs:Zat Tryz.prog:=⟨279,[.s Zak, .s Zak],fun x=>True,fun x=>.c (.bool (ZbT x.1 x.2.1)),fun _=>[],fun x hx=>Zzr x.1 x.2.1,Tryz.call279⟩
def ZuF (a:List ZaK) (b:List ZaK):Nat→List AV→Mem→Za3
  | 4,tm,M=>⟨Nat,fun y=>(Zb2 (Zcx tm [(4, .any),(5, .c (.int .i64 ((y:Nat):Int)))]) 11 16,M),fun y=>(y≤List.length a∧∀ j,j < y→Zav a j=Zav b j),fun y=>(List.length a - y)⟩
  | _,_,_=>⟨Unit,fun _=>([],[]),fun _=>False,fun _=>0⟩
theorem ZuG (a:List ZaK) (b:List ZaK):Zai Tryz.prog 249 [.c (.hs .no Zak a), .c (.hs .no Zak b)] (.c (.bool (Zdx a b))) []:=by
  refine bc0 [Zzs] [] [] [] (ZuF a b) Tryz.func249 (fun hwf=>?_)
  refine Eq.mpr (β:=(T6 (bif (neI (List.length a) (List.length b)) then (True∧(rB false (Zdx a b))) else (True∧((∃ q:Nat,(q≤List.length a∧∀ j,j < q→Zav a j=Zav b j)∧((lxs [hn Zak a,hn Zak b, .tp [], .tp []] (True∧vI 0 q∧lxs [hn Zak a,ci (List.length a),hn Zak b,ci (List.length b), .c (.bool false)] (TN 16 True)))∧pt (True)))∧∀ y0:Nat,(y0≤List.length a∧∀ j,j < y0→Zav a j=Zav b j)→(T4 (bif (ltI y0 (List.length a)) then ((pt (true=true))∧(T2 ((ix 3 y0 (List.length a))∧(T3 ((ix 3 y0 (List.length b))∧(True∧((pt True)∧(True∧(bif (!(ZbT (Zav a y0) (Zav b y0))) then (True∧(rB false (Zdx a b))) else (T3 (∃ y0' : Nat,(y0'≤List.length a∧∀ j,j < y0'→Zav a j=Zav b j)∧(List.length a - y0') < (List.length a - y0)∧((lxs [hn Zak a,hn Zak b, .tp [], .tp []] (True∧vI (w64 ((y0:Int) + 1)) y0'∧lxs [hn Zak a,ci (List.length a),hn Zak b,ci (List.length b), .c (.bool false)] (TN 16 True)))∧pt (True))))))))))))) else (True∧(rB true (Zdx a b)))))))))) (by kernel_rfl) ?_
  unfold T2 T3 T4 T6
  simp only [SIA,eq_self]
  have hm0:List.length a≤maxLen:=hwf.1.1
  repeat' (first | apply And.intro | intro _)
  all_goals (first
    | trivial
    | omega
    | exact ⟨0,⟨Nat.zero_le _,ZaH⟩,rfl⟩
    | (refine ⟨_,⟨?_,ZaD (And.right (by assumption)) ?_⟩,?_,Zbj ?_⟩ <;> first | omega | (simp_all [Prod.ext_iff,EQA]; done))
    | exact (Zey.2 (fun e=>by subst e; simp_all [EQA])).symm
    | exact (Zfk.2 (by have hx:=ZbE (t:=Zak) (xs:=a) (ys:=b) (show List.length a=List.length b by omega) (fun j hj=>(by assumption:_≤List.length a∧∀ j,j < _→Zav a j=Zav b j).2 j (by have hj' : j < List.length a:=hj; omega)); simp_all [Prod.ext_iff,EQA])).symm
    | (rw [Bool.eq_iff_iff]; simp_all [Prod.ext_iff,EQA]; done)
    | (simp_all [Prod.ext_iff,EQA]; done))
def ZuH:Zat Tryz.prog:=⟨249,[.v (.list Zak), .v (.list Zak)],fun x=>True,fun x=>.c (.bool (Zdx x.1 x.2.1)),fun _=>[],fun x hx=>ZuG x.1 x.2.1,Tryz.call249⟩
theorem ZuI (a:Zby) (b:Zby):Zai Tryz.prog 192 [.ag [.bool a.1, .hs .no Zak a.2], .ag [.bool b.1, .hs .no Zak b.2]] (.c (.bool (Za5 a b))) []:=by
  refine bc0 [ZuH] [] [] [] L0 Tryz.func192 (fun hwf=>?_)
  refine Eq.mpr (β:=(T7 (some TypeDesc.bool=some TypeDesc.bool∧(bif (!eqO a.1 b.1) then (True∧(rB false (Za5 a b))) else (T4 ((pt True)∧(True∧(bif (!(Zdx a.2 b.2)) then (True∧(rB false (Za5 a b))) else (True∧(rB true (Za5 a b))))))))))) (by kernel_rfl) ?_
  simp only [SIA,eq_self]
  repeat' (first | apply And.intro | intro _)
  all_goals (first
    | trivial
    | omega
    | exact (Zdp.2 (fun e=>by subst e; simp_all [EQA])).symm
    | (rw [Bool.eq_iff_iff]; simp_all [Prod.ext_iff,EQA]; done)
    | (simp_all [Prod.ext_iff,EQA]; done))
def ZuJ:Zat Tryz.prog:=⟨192,[.s ZcG, .s ZcG],fun x=>True,fun x=>.c (.bool (Za5 x.1 x.2.1)),fun _=>[],fun x hx=>ZuI x.1 x.2.1,Tryz.call192⟩
theorem ZEy (a:Zc7) (b:Zc7):Zai Tryz.prog 277 [.ag [.int .i64 a.1, .int .i64 a.2.1, .str a.2.2], .ag [.int .i64 b.1, .int .i64 b.2.1, .str b.2.2]] (.c (.bool (Zg6 a b))) []:=by
  refine bc0 [] [] [] [] L0 Tryz.func277 (fun hwf=>?_)
  refine Eq.mpr (β:=(T8 (bif (neI a.1 b.1) then (True∧(rB false (Zg6 a b))) else (T5 (bif (neI a.2.1 b.2.1) then (True∧(rB false (Zg6 a b))) else (T5 (bif (!eqS a.2.2 b.2.2) then (True∧(rB false (Zg6 a b))) else (True∧(rB true (Zg6 a b)))))))))) (by kernel_rfl) ?_
  simp only [SIA,eq_self]
  repeat' (first | apply And.intro | intro _)
  all_goals (first
    | trivial
    | omega
    | exact (Zg7.2 (fun e=>by subst e; simp_all [EQA])).symm
    | (rw [Bool.eq_iff_iff]; simp_all [Prod.ext_iff,EQA]; done)
    | (simp_all [Prod.ext_iff,EQA]; done))
def ZEz:Zat Tryz.prog:=⟨277,[.s ZaF, .s ZaF],fun x=>True,fun x=>.c (.bool (Zg6 x.1 x.2.1)),fun _=>[],fun x hx=>ZEy x.1 x.2.1,Tryz.call277⟩
def ZCd (a:List Zc7) (b:List Zc7):Nat→List AV→Mem→Za3
  | 4,tm,M=>⟨Nat,fun y=>(Zb2 (Zcx tm [(4, .any),(5, .c (.int .i64 ((y:Nat):Int)))]) 11 16,M),fun y=>(y≤List.length a∧∀ j,j < y→Zay a j=Zay b j),fun y=>(List.length a - y)⟩
  | _,_,_=>⟨Unit,fun _=>([],[]),fun _=>False,fun _=>0⟩
theorem ZCe (a:List Zc7) (b:List Zc7):Zai Tryz.prog 247 [.c (.hs .no ZaF a), .c (.hs .no ZaF b)] (.c (.bool (ZcX a b))) []:=by
  refine bc0 [ZEz] [] [] [] (ZCd a b) Tryz.func247 (fun hwf=>?_)
  refine Eq.mpr (β:=(T6 (bif (neI (List.length a) (List.length b)) then (True∧(rB false (ZcX a b))) else (True∧((∃ q:Nat,(q≤List.length a∧∀ j,j < q→Zay a j=Zay b j)∧((lxs [hn ZaF a,hn ZaF b, .tp [], .tp []] (True∧vI 0 q∧lxs [hn ZaF a,ci (List.length a),hn ZaF b,ci (List.length b), .c (.bool false)] (TN 16 True)))∧pt (True)))∧∀ y0:Nat,(y0≤List.length a∧∀ j,j < y0→Zay a j=Zay b j)→(T4 (bif (ltI y0 (List.length a)) then ((pt (true=true))∧(T2 ((ix 3 y0 (List.length a))∧(T3 ((ix 3 y0 (List.length b))∧(True∧((pt True)∧(True∧(bif (!(Zg6 (Zay a y0) (Zay b y0))) then (True∧(rB false (ZcX a b))) else (T3 (∃ y0' : Nat,(y0'≤List.length a∧∀ j,j < y0'→Zay a j=Zay b j)∧(List.length a - y0') < (List.length a - y0)∧((lxs [hn ZaF a,hn ZaF b, .tp [], .tp []] (True∧vI (w64 ((y0:Int) + 1)) y0'∧lxs [hn ZaF a,ci (List.length a),hn ZaF b,ci (List.length b), .c (.bool false)] (TN 16 True)))∧pt (True))))))))))))) else (True∧(rB true (ZcX a b)))))))))) (by kernel_rfl) ?_
  unfold T2 T3 T4 T6
  simp only [SIA,eq_self]
  have hm0:List.length a≤maxLen:=hwf.1.1
  repeat' (first | apply And.intro | intro _)
  all_goals (first
    | trivial
    | omega
    | exact ⟨0,⟨Nat.zero_le _,ZaH⟩,rfl⟩
    | (refine ⟨_,⟨?_,ZaD (And.right (by assumption)) ?_⟩,?_,Zbj ?_⟩ <;> first | omega | (simp_all [Prod.ext_iff,EQA]; done))
    | exact (Zdm.2 (fun e=>by subst e; simp_all [EQA])).symm
    | exact (ZeT.2 (by have hx:=ZbE (t:=ZaF) (xs:=a) (ys:=b) (show List.length a=List.length b by omega) (fun j hj=>(by assumption:_≤List.length a∧∀ j,j < _→Zay a j=Zay b j).2 j (by have hj' : j < List.length a:=hj; omega)); simp_all [Prod.ext_iff,EQA])).symm
    | (rw [Bool.eq_iff_iff]; simp_all [Prod.ext_iff,EQA]; done)
    | (simp_all [Prod.ext_iff,EQA]; done))
def ZCf:Zat Tryz.prog:=⟨247,[.v (.list ZaF), .v (.list ZaF)],fun x=>True,fun x=>.c (.bool (ZcX x.1 x.2.1)),fun _=>[],fun x hx=>ZCe x.1 x.2.1,Tryz.call247⟩
theorem ZEA (a:Zaw) (b:Zaw):Zai Tryz.prog 189 [.ag (cellsOf Zaf a), .ag (cellsOf Zaf b)] (.c (.bool (ZbF a b))) []:=by
  refine bc0 [ZCf] [] [] [] L0 Tryz.func189 (fun hwf=>?_)
  refine Eq.mpr (β:=(T8 (bif (!eqS a.1 b.1) then (True∧(rB false (ZbF a b))) else (T5 (bif (neI a.2.1 b.2.1) then (True∧(rB false (ZbF a b))) else (T5 (bif (neI a.2.2.1 b.2.2.1) then (True∧(rB false (ZbF a b))) else (T4 ((pt True)∧(True∧(bif (!(ZcX a.2.2.2 b.2.2.2)) then (True∧(rB false (ZbF a b))) else (True∧(rB true (ZbF a b)))))))))))))) (by kernel_rfl) ?_
  simp only [SIA,eq_self]
  repeat' (first | apply And.intro | intro _)
  all_goals (first
    | trivial
    | omega
    | exact (ZbZ.2 (fun e=>by subst e; simp_all [EQA])).symm
    | (rw [Bool.eq_iff_iff]; simp_all [Prod.ext_iff,EQA]; done)
    | (simp_all [Prod.ext_iff,EQA]; done))
def ZEB:Zat Tryz.prog:=⟨189,[.s Zaf, .s Zaf],fun x=>True,fun x=>.c (.bool (ZbF x.1 x.2.1)),fun _=>[],fun x hx=>ZEA x.1 x.2.1,Tryz.call189⟩
def ZCg (a:List Zaw) (b:List Zaw):Nat→List AV→Mem→Za3
  | 4,tm,M=>⟨Nat,fun y=>(Zb2 (Zcx tm [(4, .any),(5, .c (.int .i64 ((y:Nat):Int)))]) 11 16,M),fun y=>(y≤List.length a∧∀ j,j < y→Zaa a j=Zaa b j),fun y=>(List.length a - y)⟩
  | _,_,_=>⟨Unit,fun _=>([],[]),fun _=>False,fun _=>0⟩
theorem ZCh (a:List Zaw) (b:List Zaw):Zai Tryz.prog 112 [.c (.hs .no Zaf a), .c (.hs .no Zaf b)] (.c (.bool (Zbq a b))) []:=by
  refine bc0 [ZEB] [] [] [] (ZCg a b) Tryz.func112 (fun hwf=>?_)
  refine Eq.mpr (β:=(T6 (bif (neI (List.length a) (List.length b)) then (True∧(rB false (Zbq a b))) else (True∧((∃ q:Nat,(q≤List.length a∧∀ j,j < q→Zaa a j=Zaa b j)∧((lxs [hn Zaf a,hn Zaf b, .tp [], .tp []] (True∧vI 0 q∧lxs [hn Zaf a,ci (List.length a),hn Zaf b,ci (List.length b), .c (.bool false)] (TN 16 True)))∧pt (True)))∧∀ y0:Nat,(y0≤List.length a∧∀ j,j < y0→Zaa a j=Zaa b j)→(T4 (bif (ltI y0 (List.length a)) then ((pt (true=true))∧(T2 ((ix 4 y0 (List.length a))∧(T3 ((ix 4 y0 (List.length b))∧(True∧((pt True)∧(True∧(bif (!(ZbF (Zaa a y0) (Zaa b y0))) then (True∧(rB false (Zbq a b))) else (T3 (∃ y0' : Nat,(y0'≤List.length a∧∀ j,j < y0'→Zaa a j=Zaa b j)∧(List.length a - y0') < (List.length a - y0)∧((lxs [hn Zaf a,hn Zaf b, .tp [], .tp []] (True∧vI (w64 ((y0:Int) + 1)) y0'∧lxs [hn Zaf a,ci (List.length a),hn Zaf b,ci (List.length b), .c (.bool false)] (TN 16 True)))∧pt (True))))))))))))) else (True∧(rB true (Zbq a b)))))))))) (by kernel_rfl) ?_
  unfold T2 T3 T4 T6
  simp only [SIA,eq_self]
  have hm0:List.length a≤maxLen:=hwf.1.1
  repeat' (first | apply And.intro | intro _)
  all_goals (first
    | trivial
    | omega
    | exact ⟨0,⟨Nat.zero_le _,ZaH⟩,rfl⟩
    | (refine ⟨_,⟨?_,ZaD (And.right (by assumption)) ?_⟩,?_,Zbj ?_⟩ <;> first | omega | (simp_all [Prod.ext_iff,EQA]; done))
    | exact (eqT_LBox_false.2 (fun e=>by subst e; simp_all [EQA])).symm
    | exact (Zcl.2 (by have hx:=ZbE (t:=Zaf) (xs:=a) (ys:=b) (show List.length a=List.length b by omega) (fun j hj=>(by assumption:_≤List.length a∧∀ j,j < _→Zaa a j=Zaa b j).2 j (by have hj' : j < List.length a:=hj; omega)); simp_all [Prod.ext_iff,EQA])).symm
    | (rw [Bool.eq_iff_iff]; simp_all [Prod.ext_iff,EQA]; done)
    | (simp_all [Prod.ext_iff,EQA]; done))
def ZCi:Zat Tryz.prog:=⟨112,[.v (.list Zaf), .v (.list Zaf)],fun x=>True,fun x=>.c (.bool (Zbq x.1 x.2.1)),fun _=>[],fun x hx=>ZCh x.1 x.2.1,Tryz.call112⟩
theorem ZuK (a:Zam) (b:Zam):Zai Tryz.prog 190 [.ag (cellsOf Zae a), .ag (cellsOf Zae b)] (.c (.bool (Zcf a b))) []:=by
  refine bc0 [] [] [] [] L0 Tryz.func190 (fun hwf=>?_)
  refine Eq.mpr (β:=(T8 (bif (neI a.1 b.1) then (True∧(rB false (Zcf a b))) else (T5 (bif (neI a.2.1 b.2.1) then (True∧(rB false (Zcf a b))) else (T5 (bif (neI a.2.2.1 b.2.2.1) then (True∧(rB false (Zcf a b))) else (T5 (bif (neI a.2.2.2.1 b.2.2.2.1) then (True∧(rB false (Zcf a b))) else (T5 (bif (!eqS a.2.2.2.2.1 b.2.2.2.2.1) then (True∧(rB false (Zcf a b))) else (T5 (bif (!eqS a.2.2.2.2.2 b.2.2.2.2.2) then (True∧(rB false (Zcf a b))) else (True∧(rB true (Zcf a b)))))))))))))))) (by kernel_rfl) ?_
  unfold T5 T8
  simp only [SIA,eq_self]
  repeat' (first | apply And.intro | intro _)
  all_goals (first
    | trivial
    | omega
    | exact (Zez.2 (fun e=>by subst e; simp_all [EQA])).symm
    | (rw [Bool.eq_iff_iff]; simp_all [Prod.ext_iff,EQA]; done)
    | (simp_all [Prod.ext_iff,EQA]; done))
def ZuL:Zat Tryz.prog:=⟨190,[.s Zae, .s Zae],fun x=>True,fun x=>.c (.bool (Zcf x.1 x.2.1)),fun _=>[],fun x hx=>ZuK x.1 x.2.1,Tryz.call190⟩
def Zso (a:List Zam) (b:List Zam):Nat→List AV→Mem→Za3
  | 4,tm,M=>⟨Nat,fun y=>(Zb2 (Zcx tm [(4, .any),(5, .c (.int .i64 ((y:Nat):Int)))]) 11 16,M),fun y=>(y≤List.length a∧∀ j,j < y→Zab a j=Zab b j),fun y=>(List.length a - y)⟩
  | _,_,_=>⟨Unit,fun _=>([],[]),fun _=>False,fun _=>0⟩
theorem Zsp (a:List Zam) (b:List Zam):Zai Tryz.prog 113 [.c (.hs .no Zae a), .c (.hs .no Zae b)] (.c (.bool (Zc3 a b))) []:=by
  refine bc0 [ZuL] [] [] [] (Zso a b) Tryz.func113 (fun hwf=>?_)
  refine Eq.mpr (β:=(T6 (bif (neI (List.length a) (List.length b)) then (True∧(rB false (Zc3 a b))) else (True∧((∃ q:Nat,(q≤List.length a∧∀ j,j < q→Zab a j=Zab b j)∧((lxs [hn Zae a,hn Zae b, .tp [], .tp []] (True∧vI 0 q∧lxs [hn Zae a,ci (List.length a),hn Zae b,ci (List.length b), .c (.bool false)] (TN 16 True)))∧pt (True)))∧∀ y0:Nat,(y0≤List.length a∧∀ j,j < y0→Zab a j=Zab b j)→(T4 (bif (ltI y0 (List.length a)) then ((pt (true=true))∧(T2 ((ix 6 y0 (List.length a))∧(T3 ((ix 6 y0 (List.length b))∧(True∧((pt True)∧(True∧(bif (!(Zcf (Zab a y0) (Zab b y0))) then (True∧(rB false (Zc3 a b))) else (T3 (∃ y0' : Nat,(y0'≤List.length a∧∀ j,j < y0'→Zab a j=Zab b j)∧(List.length a - y0') < (List.length a - y0)∧((lxs [hn Zae a,hn Zae b, .tp [], .tp []] (True∧vI (w64 ((y0:Int) + 1)) y0'∧lxs [hn Zae a,ci (List.length a),hn Zae b,ci (List.length b), .c (.bool false)] (TN 16 True)))∧pt (True))))))))))))) else (True∧(rB true (Zc3 a b)))))))))) (by kernel_rfl) ?_
  unfold T2 T3 T4 T6
  simp only [SIA,eq_self]
  have hm0:List.length a≤maxLen:=hwf.1.1
  repeat' (first | apply And.intro | intro _)
  all_goals (first
    | trivial
    | omega
    | exact ⟨0,⟨Nat.zero_le _,ZaH⟩,rfl⟩
    | (refine ⟨_,⟨?_,ZaD (And.right (by assumption)) ?_⟩,?_,Zbj ?_⟩ <;> first | omega | (simp_all [Prod.ext_iff,EQA]; done))
    | exact (ZdZ.2 (fun e=>by subst e; simp_all [EQA])).symm
    | exact (ZeA.2 (by have hx:=ZbE (t:=Zae) (xs:=a) (ys:=b) (show List.length a=List.length b by omega) (fun j hj=>(by assumption:_≤List.length a∧∀ j,j < _→Zab a j=Zab b j).2 j (by have hj' : j < List.length a:=hj; omega)); simp_all [Prod.ext_iff,EQA])).symm
    | (rw [Bool.eq_iff_iff]; simp_all [Prod.ext_iff,EQA]; done)
    | (simp_all [Prod.ext_iff,EQA]; done))
def Zsq:Zat Tryz.prog:=⟨113,[.v (.list Zae), .v (.list Zae)],fun x=>True,fun x=>.c (.bool (Zc3 x.1 x.2.1)),fun _=>[],fun x hx=>Zsp x.1 x.2.1,Tryz.call113⟩
theorem Zzt (a:Zau) (b:Zau):Zai Tryz.prog 43 [.ag (cellsOf Zbr a), .ag (cellsOf Zbr b)] (.c (.bool (ZdI a b))) []:=by
  refine bc0 [ZCi,Zsq] [] [] [] L0 Tryz.func43 (fun hwf=>?_)
  refine Eq.mpr (β:=(T7 ((pt True)∧(True∧(bif (!(Zbq a.1 b.1)) then (True∧(rB false (ZdI a b))) else (T4 ((pt True)∧(True∧(bif (!(Zc3 a.2.1 b.2.1)) then (True∧(rB false (ZdI a b))) else (T5 (bif (neI a.2.2 b.2.2) then (True∧(rB false (ZdI a b))) else (True∧(rB true (ZdI a b)))))))))))))) (by kernel_rfl) ?_
  simp only [SIA,eq_self]
  repeat' (first | apply And.intro | intro _)
  all_goals (first
    | trivial
    | omega
    | exact (Zfm.2 (fun e=>by subst e; simp_all [EQA])).symm
    | (rw [Bool.eq_iff_iff]; simp_all [Prod.ext_iff,EQA]; done)
    | (simp_all [Prod.ext_iff,EQA]; done))
def Zzu:Zat Tryz.prog:=⟨43,[.s Zbr, .s Zbr],fun x=>True,fun x=>.c (.bool (ZdI x.1 x.2.1)),fun _=>[],fun x hx=>Zzt x.1 x.2.1,Tryz.call43⟩
theorem ZCj (a:ZbB) (b:ZbB):Zai Tryz.prog 278 [.ag [.int .i64 a.1, .int .i64 a.2], .ag [.int .i64 b.1, .int .i64 b.2]] (.c (.bool (ZfS a b))) []:=by
  refine bc0 [] [] [] [] L0 Tryz.func278 (fun hwf=>?_)
  refine Eq.mpr (β:=(T8 (bif (neI a.1 b.1) then (True∧(rB false (ZfS a b))) else (T5 (bif (neI a.2 b.2) then (True∧(rB false (ZfS a b))) else (True∧(rB true (ZfS a b)))))))) (by kernel_rfl) ?_
  simp only [SIA,eq_self]
  repeat' (first | apply And.intro | intro _)
  all_goals (first
    | trivial
    | omega
    | exact (Zga.2 (fun e=>by subst e; simp_all [EQA])).symm
    | (rw [Bool.eq_iff_iff]; simp_all [Prod.ext_iff,EQA]; done)
    | (simp_all [Prod.ext_iff,EQA]; done))
def ZCk:Zat Tryz.prog:=⟨278,[.s Zal, .s Zal],fun x=>True,fun x=>.c (.bool (ZfS x.1 x.2.1)),fun _=>[],fun x hx=>ZCj x.1 x.2.1,Tryz.call278⟩
def Zzv (a:List ZbB) (b:List ZbB):Nat→List AV→Mem→Za3
  | 4,tm,M=>⟨Nat,fun y=>(Zb2 (Zcx tm [(4, .any),(5, .c (.int .i64 ((y:Nat):Int)))]) 11 16,M),fun y=>(y≤List.length a∧∀ j,j < y→ZaM a j=ZaM b j),fun y=>(List.length a - y)⟩
  | _,_,_=>⟨Unit,fun _=>([],[]),fun _=>False,fun _=>0⟩
theorem Zzw (a:List ZbB) (b:List ZbB):Zai Tryz.prog 248 [.c (.hs .no Zal a), .c (.hs .no Zal b)] (.c (.bool (ZaS a b))) []:=by
  refine bc0 [ZCk] [] [] [] (Zzv a b) Tryz.func248 (fun hwf=>?_)
  refine Eq.mpr (β:=(T6 (bif (neI (List.length a) (List.length b)) then (True∧(rB false (ZaS a b))) else (True∧((∃ q:Nat,(q≤List.length a∧∀ j,j < q→ZaM a j=ZaM b j)∧((lxs [hn Zal a,hn Zal b, .tp [], .tp []] (True∧vI 0 q∧lxs [hn Zal a,ci (List.length a),hn Zal b,ci (List.length b), .c (.bool false)] (TN 16 True)))∧pt (True)))∧∀ y0:Nat,(y0≤List.length a∧∀ j,j < y0→ZaM a j=ZaM b j)→(T4 (bif (ltI y0 (List.length a)) then ((pt (true=true))∧(T2 ((ix 2 y0 (List.length a))∧(T3 ((ix 2 y0 (List.length b))∧(True∧((pt True)∧(True∧(bif (!(ZfS (ZaM a y0) (ZaM b y0))) then (True∧(rB false (ZaS a b))) else (T3 (∃ y0' : Nat,(y0'≤List.length a∧∀ j,j < y0'→ZaM a j=ZaM b j)∧(List.length a - y0') < (List.length a - y0)∧((lxs [hn Zal a,hn Zal b, .tp [], .tp []] (True∧vI (w64 ((y0:Int) + 1)) y0'∧lxs [hn Zal a,ci (List.length a),hn Zal b,ci (List.length b), .c (.bool false)] (TN 16 True)))∧pt (True))))))))))))) else (True∧(rB true (ZaS a b)))))))))) (by kernel_rfl) ?_
  unfold T2 T3 T4 T6
  simp only [SIA,eq_self]
  have hm0:List.length a≤maxLen:=hwf.1.1
  repeat' (first | apply And.intro | intro _)
  all_goals (first
    | trivial
    | omega
    | exact ⟨0,⟨Nat.zero_le _,ZaH⟩,rfl⟩
    | (refine ⟨_,⟨?_,ZaD (And.right (by assumption)) ?_⟩,?_,Zbj ?_⟩ <;> first | omega | (simp_all [Prod.ext_iff,EQA]; done))
    | exact (ZbM.2 (fun e=>by subst e; simp_all [EQA])).symm
    | exact (Zdl.2 (by have hx:=ZbE (t:=Zal) (xs:=a) (ys:=b) (show List.length a=List.length b by omega) (fun j hj=>(by assumption:_≤List.length a∧∀ j,j < _→ZaM a j=ZaM b j).2 j (by have hj' : j < List.length a:=hj; omega)); simp_all [Prod.ext_iff,EQA])).symm
    | (rw [Bool.eq_iff_iff]; simp_all [Prod.ext_iff,EQA]; done)
    | (simp_all [Prod.ext_iff,EQA]; done))
def Zzx:Zat Tryz.prog:=⟨248,[.v (.list Zal), .v (.list Zal)],fun x=>True,fun x=>.c (.bool (ZaS x.1 x.2.1)),fun _=>[],fun x hx=>Zzw x.1 x.2.1,Tryz.call248⟩
theorem ZCl (a:List ZbB) (b:List ZbB):Zai Tryz.prog 191 [.ag [.hs .no Zal a], .ag [.hs .no Zal b]] (.c (.bool (ZaS a b))) []:=by
  refine bc0 [Zzx] [] [] [] L0 Tryz.func191 (fun hwf=>?_)
  refine Eq.mpr (β:=(T7 ((pt True)∧(True∧(bif (!(ZaS a b)) then (True∧(rB false (ZaS a b))) else (True∧(rB true (ZaS a b)))))))) (by kernel_rfl) ?_
  simp only [SIA,eq_self]
  repeat' (first | apply And.intro | intro _)
  all_goals (first
    | trivial
    | omega
    | exact (ZbM.2 (fun e=>by subst e; simp_all [EQA])).symm
    | (rw [Bool.eq_iff_iff]; simp_all [Prod.ext_iff,EQA]; done)
    | (simp_all [Prod.ext_iff,EQA]; done))
def ZCm:Zat Tryz.prog:=⟨191,[.s (.list Zal), .s (.list Zal)],fun x=>True,fun x=>.c (.bool (ZaS x.1 x.2.1)),fun _=>[],fun x hx=>ZCl x.1 x.2.1,Tryz.call191⟩
theorem ZCn (a:Zaz) (b:Zaz):Zai Tryz.prog 280 [.ag (cellsOf Zah a), .ag (cellsOf Zah b)] (.c (.bool (Zd9 a b))) []:=by
  refine bc0 [] [] [] [] L0 Tryz.func280 (fun hwf=>?_)
  refine Eq.mpr (β:=(T8 (bif (neI a.1 b.1) then (True∧(rB false (Zd9 a b))) else (T5 (bif (neI a.2.1 b.2.1) then (True∧(rB false (Zd9 a b))) else (T5 (bif (neI a.2.2.1 b.2.2.1) then (True∧(rB false (Zd9 a b))) else (T5 (bif (!eqS a.2.2.2 b.2.2.2) then (True∧(rB false (Zd9 a b))) else (True∧(rB true (Zd9 a b)))))))))))) (by kernel_rfl) ?_
  simp only [SIA,eq_self]
  repeat' (first | apply And.intro | intro _)
  all_goals (first
    | trivial
    | omega
    | exact (Zgc.2 (fun e=>by subst e; simp_all [EQA])).symm
    | (rw [Bool.eq_iff_iff]; simp_all [Prod.ext_iff,EQA]; done)
    | (simp_all [Prod.ext_iff,EQA]; done))
def ZCo:Zat Tryz.prog:=⟨280,[.s Zah, .s Zah],fun x=>True,fun x=>.c (.bool (Zd9 x.1 x.2.1)),fun _=>[],fun x hx=>ZCn x.1 x.2.1,Tryz.call280⟩
def Zzy (a:List Zaz) (b:List Zaz):Nat→List AV→Mem→Za3
  | 4,tm,M=>⟨Nat,fun y=>(Zb2 (Zcx tm [(4, .any),(5, .c (.int .i64 ((y:Nat):Int)))]) 11 16,M),fun y=>(y≤List.length a∧∀ j,j < y→Zad a j=Zad b j),fun y=>(List.length a - y)⟩
  | _,_,_=>⟨Unit,fun _=>([],[]),fun _=>False,fun _=>0⟩
theorem Zzz (a:List Zaz) (b:List Zaz):Zai Tryz.prog 250 [.c (.hs .no Zah a), .c (.hs .no Zah b)] (.c (.bool (Zcm a b))) []:=by
  refine bc0 [ZCo] [] [] [] (Zzy a b) Tryz.func250 (fun hwf=>?_)
  refine Eq.mpr (β:=(T6 (bif (neI (List.length a) (List.length b)) then (True∧(rB false (Zcm a b))) else (True∧((∃ q:Nat,(q≤List.length a∧∀ j,j < q→Zad a j=Zad b j)∧((lxs [hn Zah a,hn Zah b, .tp [], .tp []] (True∧vI 0 q∧lxs [hn Zah a,ci (List.length a),hn Zah b,ci (List.length b), .c (.bool false)] (TN 16 True)))∧pt (True)))∧∀ y0:Nat,(y0≤List.length a∧∀ j,j < y0→Zad a j=Zad b j)→(T4 (bif (ltI y0 (List.length a)) then ((pt (true=true))∧(T2 ((ix 4 y0 (List.length a))∧(T3 ((ix 4 y0 (List.length b))∧(True∧((pt True)∧(True∧(bif (!(Zd9 (Zad a y0) (Zad b y0))) then (True∧(rB false (Zcm a b))) else (T3 (∃ y0' : Nat,(y0'≤List.length a∧∀ j,j < y0'→Zad a j=Zad b j)∧(List.length a - y0') < (List.length a - y0)∧((lxs [hn Zah a,hn Zah b, .tp [], .tp []] (True∧vI (w64 ((y0:Int) + 1)) y0'∧lxs [hn Zah a,ci (List.length a),hn Zah b,ci (List.length b), .c (.bool false)] (TN 16 True)))∧pt (True))))))))))))) else (True∧(rB true (Zcm a b)))))))))) (by kernel_rfl) ?_
  unfold T2 T3 T4 T6
  simp only [SIA,eq_self]
  have hm0:List.length a≤maxLen:=hwf.1.1
  repeat' (first | apply And.intro | intro _)
  all_goals (first
    | trivial
    | omega
    | exact ⟨0,⟨Nat.zero_le _,ZaH⟩,rfl⟩
    | (refine ⟨_,⟨?_,ZaD (And.right (by assumption)) ?_⟩,?_,Zbj ?_⟩ <;> first | omega | (simp_all [Prod.ext_iff,EQA]; done))
    | exact (Zc4.2 (fun e=>by subst e; simp_all [EQA])).symm
    | exact (Zea.2 (by have hx:=ZbE (t:=Zah) (xs:=a) (ys:=b) (show List.length a=List.length b by omega) (fun j hj=>(by assumption:_≤List.length a∧∀ j,j < _→Zad a j=Zad b j).2 j (by have hj' : j < List.length a:=hj; omega)); simp_all [Prod.ext_iff,EQA])).symm
    | (rw [Bool.eq_iff_iff]; simp_all [Prod.ext_iff,EQA]; done)
    | (simp_all [Prod.ext_iff,EQA]; done))
def ZzA:Zat Tryz.prog:=⟨250,[.v (.list Zah), .v (.list Zah)],fun x=>True,fun x=>.c (.bool (Zcm x.1 x.2.1)),fun _=>[],fun x hx=>Zzz x.1 x.2.1,Tryz.call250⟩
theorem ZzB (a:Zbc) (b:Zbc):Zai Tryz.prog 193 [.ag [.hs .no Zah a.1, .bool a.2.1, .bool a.2.2], .ag [.hs .no Zah b.1, .bool b.2.1, .bool b.2.2]] (.c (.bool (Zbf a b))) []:=by
  refine bc0 [ZzA] [] [] [] L0 Tryz.func193 (fun hwf=>?_)
  refine Eq.mpr (β:=(T7 ((pt True)∧(True∧(bif (!(Zcm a.1 b.1)) then (True∧(rB false (Zbf a b))) else (T4 (some TypeDesc.bool=some TypeDesc.bool∧(bif (!eqO a.2.1 b.2.1) then (True∧(rB false (Zbf a b))) else (T4 (some TypeDesc.bool=some TypeDesc.bool∧(bif (!eqO a.2.2 b.2.2) then (True∧(rB false (Zbf a b))) else (True∧(rB true (Zbf a b)))))))))))))) (by kernel_rfl) ?_
  simp only [SIA,eq_self]
  repeat' (first | apply And.intro | intro _)
  all_goals (first
    | trivial
    | omega
    | exact (Zb7.2 (fun e=>by subst e; simp_all [EQA])).symm
    | (rw [Bool.eq_iff_iff]; simp_all [Prod.ext_iff,EQA]; done)
    | (simp_all [Prod.ext_iff,EQA]; done))
def ZzC:Zat Tryz.prog:=⟨193,[.s ZcU, .s ZcU],fun x=>True,fun x=>.c (.bool (Zbf x.1 x.2.1)),fun _=>[],fun x hx=>ZzB x.1 x.2.1,Tryz.call193⟩
theorem ZEC (a:ZpD) (b:ZpD):Zai Tryz.prog 195 [.ag [.str a.1, .str a.2], .ag [.str b.1, .str b.2]] (.c (.bool (Zh7 a b))) []:=by
  refine bc0 [] [] [] [] L0 Tryz.func195 (fun hwf=>?_)
  refine Eq.mpr (β:=(T8 (bif (!eqS a.1 b.1) then (True∧(rB false (Zh7 a b))) else (T5 (bif (!eqS a.2 b.2) then (True∧(rB false (Zh7 a b))) else (True∧(rB true (Zh7 a b)))))))) (by kernel_rfl) ?_
  simp only [SIA,eq_self]
  repeat' (first | apply And.intro | intro _)
  all_goals (first
    | trivial
    | omega
    | exact (Zg8.2 (fun e=>by subst e; simp_all [EQA])).symm
    | (rw [Bool.eq_iff_iff]; simp_all [Prod.ext_iff,EQA]; done)
    | (simp_all [Prod.ext_iff,EQA]; done))
def ZED:Zat Tryz.prog:=⟨195,[.s Zkl, .s Zkl],fun x=>True,fun x=>.c (.bool (Zh7 x.1 x.2.1)),fun _=>[],fun x hx=>ZEC x.1 x.2.1,Tryz.call195⟩
theorem ZGx (a:GIn) (b:GIn):Zai Tryz.prog 194 [.ag [.str a.1, .bool a.2], .ag [.str b.1, .bool b.2]] (.c (.bool (ZlN a b))) []:=by
  refine bc0 [] [] [] [] L0 Tryz.func194 (fun hwf=>?_)
  refine Eq.mpr (β:=(T8 (bif (!eqS a.1 b.1) then (True∧(rB false (ZlN a b))) else (T4 (some TypeDesc.bool=some TypeDesc.bool∧(bif (!eqO a.2 b.2) then (True∧(rB false (ZlN a b))) else (True∧(rB true (ZlN a b))))))))) (by kernel_rfl) ?_
  simp only [SIA,eq_self]
  repeat' (first | apply And.intro | intro _)
  all_goals (first
    | trivial
    | omega
    | exact (Zh8.2 (fun e=>by subst e; simp_all [EQA])).symm
    | (rw [Bool.eq_iff_iff]; simp_all [Prod.ext_iff,EQA]; done)
    | (simp_all [Prod.ext_iff,EQA]; done))
def ZGy:Zat Tryz.prog:=⟨194,[.s ZAh, .s ZAh],fun x=>True,fun x=>.c (.bool (ZlN x.1 x.2.1)),fun _=>[],fun x hx=>ZGx x.1 x.2.1,Tryz.call194⟩
def Zd3 (a:Zac) (b:Zac):Prop:=(True∧(rB false (ZaQ a b)))
theorem Zsr (a:Zac) (b:Zac):Zai Tryz.prog 114 [.ag (cellsOf Zag a), .ag (cellsOf Zag b)] (.c (.bool (ZaQ a b))) []:=by
  refine bc0 [ZCm,ZuJ,ZzC,ZGy,ZED] [] [] [] L0 Tryz.func114 (fun hwf=>?_)
  refine Eq.mpr (β:=(T7 (some TypeDesc.bool=some TypeDesc.bool∧(bif (!eqO a.1 b.1) then (Zd3 a b) else (T5 (bif (neI a.2.1 b.2.1) then (Zd3 a b) else (T5 (bif (neI a.2.2.1 b.2.2.1) then (Zd3 a b) else (T5 (bif (neI a.2.2.2.1 b.2.2.2.1) then (Zd3 a b) else (T4 ((pt True)∧(True∧(bif (!(ZaS a.2.2.2.2.1 b.2.2.2.2.1)) then (Zd3 a b) else (T4 ((pt True)∧(True∧(bif (!(Za5 a.2.2.2.2.2.1 b.2.2.2.2.2.1)) then (Zd3 a b) else (T5 (bif (!eqS a.2.2.2.2.2.2.1 b.2.2.2.2.2.2.1) then (Zd3 a b) else (T5 (bif (!eqS a.2.2.2.2.2.2.2.1 b.2.2.2.2.2.2.2.1) then (Zd3 a b) else (T4 ((pt True)∧(True∧(bif (!(Zbf a.2.2.2.2.2.2.2.2.1 b.2.2.2.2.2.2.2.2.1)) then (Zd3 a b) else (T4 ((pt True)∧(True∧(bif (!(ZlN a.2.2.2.2.2.2.2.2.2.1 b.2.2.2.2.2.2.2.2.2.1)) then (Zd3 a b) else (T4 ((pt True)∧(True∧(bif (!(Zh7 a.2.2.2.2.2.2.2.2.2.2.1 b.2.2.2.2.2.2.2.2.2.2.1)) then (Zd3 a b) else (T5 (bif (neI a.2.2.2.2.2.2.2.2.2.2.2 b.2.2.2.2.2.2.2.2.2.2.2) then (Zd3 a b) else (True∧(rB true (ZaQ a b))))))))))))))))))))))))))))))))))))))) (by kernel_rfl) ?_
  unfold Zd3 T4 T5 T7
  simp only [SIA,eq_self]
  repeat' (first | apply And.intro | intro _)
  all_goals (first
    | trivial
    | omega
    | exact (Zd0.2 (fun e=>by subst e; simp_all [EQA])).symm
    | (rw [Bool.eq_iff_iff]; simp_all [Prod.ext_iff,EQA]; done)
    | (simp_all [Prod.ext_iff,EQA]; done))
def Zss:Zat Tryz.prog:=⟨114,[.s Zag, .s Zag],fun x=>True,fun x=>.c (.bool (ZaQ x.1 x.2.1)),fun _=>[],fun x hx=>Zsr x.1 x.2.1,Tryz.call114⟩
def Zpz (a:List Zac) (b:List Zac):Nat→List AV→Mem→Za3
  | 4,tm,M=>⟨Nat,fun y=>(Zb2 (Zcx tm [(4, .any),(5, .c (.int .i64 ((y:Nat):Int)))]) 11 16,M),fun y=>(y≤List.length a∧∀ j,j < y→ZaA a j=ZaA b j),fun y=>(List.length a - y)⟩
  | _,_,_=>⟨Unit,fun _=>([],[]),fun _=>False,fun _=>0⟩
theorem ZpA (a:List Zac) (b:List Zac):Zai Tryz.prog 44 [.c (.hs .no Zag a), .c (.hs .no Zag b)] (.c (.bool (ZcD a b))) []:=by
  refine bc0 [Zss] [] [] [] (Zpz a b) Tryz.func44 (fun hwf=>?_)
  refine Eq.mpr (β:=(T6 (bif (neI (List.length a) (List.length b)) then (True∧(rB false (ZcD a b))) else (True∧((∃ q:Nat,(q≤List.length a∧∀ j,j < q→ZaA a j=ZaA b j)∧((lxs [hn Zag a,hn Zag b, .tp [], .tp []] (True∧vI 0 q∧lxs [hn Zag a,ci (List.length a),hn Zag b,ci (List.length b), .c (.bool false)] (TN 16 True)))∧pt (True)))∧∀ y0:Nat,(y0≤List.length a∧∀ j,j < y0→ZaA a j=ZaA b j)→(T4 (bif (ltI y0 (List.length a)) then ((pt (true=true))∧(T2 ((ix 17 y0 (List.length a))∧(T3 ((ix 17 y0 (List.length b))∧(True∧((pt True)∧(True∧(bif (!(ZaQ (ZaA a y0) (ZaA b y0))) then (True∧(rB false (ZcD a b))) else (T3 (∃ y0' : Nat,(y0'≤List.length a∧∀ j,j < y0'→ZaA a j=ZaA b j)∧(List.length a - y0') < (List.length a - y0)∧((lxs [hn Zag a,hn Zag b, .tp [], .tp []] (True∧vI (w64 ((y0:Int) + 1)) y0'∧lxs [hn Zag a,ci (List.length a),hn Zag b,ci (List.length b), .c (.bool false)] (TN 16 True)))∧pt (True))))))))))))) else (True∧(rB true (ZcD a b)))))))))) (by kernel_rfl) ?_
  unfold T2 T3 T4 T6
  simp only [SIA,eq_self]
  have hm0:List.length a≤maxLen:=hwf.1.1
  repeat' (first | apply And.intro | intro _)
  all_goals (first
    | trivial
    | omega
    | exact ⟨0,⟨Nat.zero_le _,ZaH⟩,rfl⟩
    | (refine ⟨_,⟨?_,ZaD (And.right (by assumption)) ?_⟩,?_,Zbj ?_⟩ <;> first | omega | (simp_all [Prod.ext_iff,EQA]; done))
    | exact (ZdJ.2 (fun e=>by subst e; simp_all [EQA])).symm
    | exact (Zd1.2 (by have hx:=ZbE (t:=Zag) (xs:=a) (ys:=b) (show List.length a=List.length b by omega) (fun j hj=>(by assumption:_≤List.length a∧∀ j,j < _→ZaA a j=ZaA b j).2 j (by have hj' : j < List.length a:=hj; omega)); simp_all [Prod.ext_iff,EQA])).symm
    | (rw [Bool.eq_iff_iff]; simp_all [Prod.ext_iff,EQA]; done)
    | (simp_all [Prod.ext_iff,EQA]; done))
def ZpB:Zat Tryz.prog:=⟨44,[.v (.list Zag), .v (.list Zag)],fun x=>True,fun x=>.c (.bool (ZcD x.1 x.2.1)),fun _=>[],fun x hx=>ZpA x.1 x.2.1,Tryz.call44⟩
theorem ZuM (a:Zbg) (b:Zbg):Zai Tryz.prog 13 [.ag (cellsOf ZbP a), .ag (cellsOf ZbP b)] (.c (.bool (Zdb a b))) []:=by
  refine bc0 [Zzu,ZpB] [] [] [] L0 Tryz.func13 (fun hwf=>?_)
  refine Eq.mpr (β:=(T7 ((pt True)∧(True∧(bif (!(ZdI a.1 b.1)) then (True∧(rB false (Zdb a b))) else (T4 ((pt True)∧(True∧(bif (!(ZcD a.2 b.2)) then (True∧(rB false (Zdb a b))) else (True∧(rB true (Zdb a b)))))))))))) (by kernel_rfl) ?_
  simp only [SIA,eq_self]
  repeat' (first | apply And.intro | intro _)
  all_goals (first
    | trivial
    | omega
    | exact (ZeB.2 (fun e=>by subst e; simp_all [EQA])).symm
    | (rw [Bool.eq_iff_iff]; simp_all [Prod.ext_iff,EQA]; done)
    | (simp_all [Prod.ext_iff,EQA]; done))
def ZuN:Zat Tryz.prog:=⟨13,[.s ZbP, .s ZbP],fun x=>True,fun x=>.c (.bool (Zdb x.1 x.2.1)),fun _=>[],fun x hx=>ZuM x.1 x.2.1,Tryz.call13⟩
end Go.Proofs.YtkompmgleojmlaaGreat
