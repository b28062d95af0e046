import Derived.Test.YtkompmgleojmlaaGreatFBlAdm
set_option linter.unusedSimpArgs false
set_option linter.unusedVariables false
set_option maxRecDepth 100000
set_option maxHeartbeats 4000000
namespace Go.Proofs.YtkompmgleojmlaaGreat
open Go.ChangeShapes Go.WideShapes Go.ChangeAt Go.RowKit Go.Joins Go.Deep
open GoRep (rep bulk)
def ZrY (m:Zax):Int:=if m.1=1∨m.1=2∨m.1=3 then 8 else if m.1=4 then 1 else if m.1=5 then 4 else if m.1=6 then 2 else 0
def ZFo (m:Zax):Int:=if m.1=5 then m.2.2.1 else 0
def ZgT (m:Zax) (n:Int):Zay:=(1,n,ZFo m,(⟨#[]⟩:ByteArray))
def ZcB (f:ZbP) (kind:Int) (name:ByteArray) (ev:Int):List Zay:=if name=(⟨#[]⟩:ByteArray)∨admitsB f (⟨#[]⟩:ByteArray) name ev=false then [] else [(kind,0,0,name)]
def ZBs (out:List Zay) (s:Zal) (m:Zax) (kind:Int) (name:ByteArray):List Zay:=out ++ ZcB s.2.2.2.2.2.1 kind name (ZrY m)
def Zb7 (st:Za7) (s:Zal) (n:Int):List Zay :=
  if ¬ (0≤n∧n≤((List.length st.2.1:Nat):Int) - 1)∨s.1=false∨(¬ s.2.1=2∧¬ s.2.1=3) then []
  else if (Zac st.2.1 (Int.toNat n)).1=4∨(Zac st.2.1 (Int.toNat n)).1=5∨(Zac st.2.1 (Int.toNat n)).1=6 then
    if s.2.1=3∧s.2.2.1=(Zac st.2.1 (Int.toNat n)).2.1 then [ZgT (Zac st.2.1 (Int.toNat n)) n]
    else ZcB s.2.2.2.2.2.1 2 (Zfg st (Zac st.2.1 (Int.toNat n)).2.1 (IntKind.wrap .i64 (n + 1))).1.1 (ZrY (Zac st.2.1 (Int.toNat n)))
  else if (Zac st.2.1 (Int.toNat n)).1=1 then ZcB s.2.2.2.2.2.1 3 (Zac st.2.1 (Int.toNat n)).2.2.2.2.1 8
  else if (Zac st.2.1 (Int.toNat n)).1=2 then ZcB s.2.2.2.2.2.1 4 (Zfg st (Zac st.2.1 (Int.toNat n)).2.1 n).1.1 8
  else if (Zac st.2.1 (Int.toNat n)).1=3 then ZcB s.2.2.2.2.2.1 4 (Zfg st (Zac st.2.1 (Int.toNat n)).2.1 n).1.1 8 ++ ZcB s.2.2.2.2.2.1 3 (Zac st.2.1 (Int.toNat n)).2.2.2.2.1 8
  else []
theorem ZDv {st:Za7} {s:Zal} {n:Int} (h:¬ (0≤n∧n≤((List.length st.2.1:Nat):Int) - 1)):Zb7 st s n=[]:=if_pos (.inl h)
theorem ZDw {st:Za7} {s:Zal} {n:Int} (h:s.1=false):Zb7 st s n=[]:=if_pos (.inr (.inl h))
theorem ZDx {st:Za7} {s:Zal} {n:Int} (h:¬ s.2.1=2∧¬ s.2.1=3):Zb7 st s n=[]:=if_pos (.inr (.inr h))
theorem ZJY {st:Za7} {s:Zal} {n:Int} (h:0≤n∧n≤((List.length st.2.1:Nat):Int) - 1) (hl:s.1=true) (hs:s.2.1=2∨s.2.1=3):Zb7 st s n =
  if (Zac st.2.1 (Int.toNat n)).1=4∨(Zac st.2.1 (Int.toNat n)).1=5∨(Zac st.2.1 (Int.toNat n)).1=6 then
    if s.2.1=3∧s.2.2.1=(Zac st.2.1 (Int.toNat n)).2.1 then [ZgT (Zac st.2.1 (Int.toNat n)) n]
    else ZcB s.2.2.2.2.2.1 2 (Zfg st (Zac st.2.1 (Int.toNat n)).2.1 (IntKind.wrap .i64 (n + 1))).1.1 (ZrY (Zac st.2.1 (Int.toNat n)))
  else if (Zac st.2.1 (Int.toNat n)).1=1 then ZcB s.2.2.2.2.2.1 3 (Zac st.2.1 (Int.toNat n)).2.2.2.2.1 8
  else if (Zac st.2.1 (Int.toNat n)).1=2 then ZcB s.2.2.2.2.2.1 4 (Zfg st (Zac st.2.1 (Int.toNat n)).2.1 n).1.1 8
  else if (Zac st.2.1 (Int.toNat n)).1=3 then ZcB s.2.2.2.2.2.1 4 (Zfg st (Zac st.2.1 (Int.toNat n)).2.1 n).1.1 8 ++ ZcB s.2.2.2.2.2.1 3 (Zac st.2.1 (Int.toNat n)).2.2.2.2.1 8
  else []:=if_neg (by
    rintro (h1 | h1 | h1)
    · exact h1 h
    · rw [hl] at h1; cases h1
    · omega)
theorem ev8 {m:Zax} (h:m.1=1∨m.1=2∨m.1=3):ZrY m=8:=if_pos h
theorem Zfy (f:ZbP) (kind:Int) (name:ByteArray) (ev:Int):(ZcB f kind name ev).length≤1:=by
  unfold ZcB
  split <;> simp
theorem ZBt (st:Za7) (s:Zal) (n:Int):(Zb7 st s n).length≤2:=by
  unfold Zb7
  repeat' split
  all_goals first
    | exact Nat.zero_le _
    | exact Nat.le_succ _
    | exact Nat.le_trans (Zfy _ _ _ _) (Nat.le_succ _)
    | (rw [List.length_append]; exact Nat.add_le_add (Zfy _ _ _ _) (Zfy _ _ _ _))
theorem Zx8 (m:Zax):Zat Tryz.prog 206 [.ag (cellsOf Zah m)] (.c (.int .i64 (ZrY m))) []:=by
  refine bc0 [] [] [] [] L0 Tryz.func206 (fun hwf=>?_)
  exact ZvK
def Zx9:ZaI Tryz.prog:=⟨206,[.s Zah],fun x=>True,fun x=>.c (.int .i64 (ZrY x.1)),fun _=>[],fun x hx=>Zx8 x.1,Tryz.call206⟩
theorem Zya (m:Zax):Zat Tryz.prog 121 [.ag (cellsOf Zah m)] (.c (.int .i64 (ZrY m))) []:=by
  refine bc0 [] [] [] [] L0 Tryz.func121 (fun hwf=>?_)
  exact ZvK
def Zyb:ZaI Tryz.prog:=⟨121,[.s Zah],fun x=>True,fun x=>.c (.int .i64 (ZrY x.1)),fun _=>[],fun x hx=>Zya x.1,Tryz.call121⟩
theorem Zyc (m:Zax) (n:Int):Zat Tryz.prog 110 [.ag (cellsOf Zah m), .c (.int .i64 n)] (.ag [.int .i64 (ZgT m n).1, .int .i64 (ZgT m n).2.1, .int .i64 (ZgT m n).2.2.1, .str (ZgT m n).2.2.2]) []:=by
  refine bc0 [] [] [] [] L0 Tryz.func110 (fun hwf=>?_)
  refine Eq.mpr (β:=(T9 (bif (eqI m.1 5) then (T6 (pt (((cI 1 (ZgT m n).1)∧(cI n (ZgT m n).2.1)∧(cI m.2.2.1 (ZgT m n).2.2.1)∧(cS (⟨#[]⟩:ByteArray) (ZgT m n).2.2.2)∧True)))) else (T2 (pt (((cI 1 (ZgT m n).1)∧(cI n (ZgT m n).2.1)∧(cI 0 (ZgT m n).2.2.1)∧(cS (⟨#[]⟩:ByteArray) (ZgT m n).2.2.2)∧True))))))) (by kernel_rfl) ?_
  unfold T2 T6 T9
  simp only [Zbw,ZbG,Zbf,Bool.not_true,Bool.not_false,Zd0,eq_self]
  repeat' (first | apply And.intro | intro _)
  all_goals first
    | trivial
    | omega
    | contradiction
    | exact ⟨rfl,rfl⟩
    | (show _ + 1≤rowMax; unfold rowMax; omega)
    | (simp only [ZgT,ZFo, *,eq_self,if_true,if_false,and_true,true_and,and_self,not_true,not_false,false_and,and_false,or_true,true_or,or_false,false_or,or_self,Bool.false_eq_true,reduceCtorEq,reduceIte,Int.reduceEq,not_false_eq_true,not_true_eq_false,ite_true,ite_false,Bool.and_true,Bool.true_and,Bool.and_false,Bool.false_and,Bool.or_true,Bool.true_or,Bool.or_false,Bool.false_or,Bool.not_true,Bool.not_false]; done)
    | (simp_all [ZgT,ZFo,eqI,neI,geI,eqS]; done)
def Zyd:ZaI Tryz.prog:=⟨110,[.s Zah, .v ZaC],fun x=>True,fun x=>.ag [.int .i64 (ZgT x.1 x.2.1).1, .int .i64 (ZgT x.1 x.2.1).2.1, .int .i64 (ZgT x.1 x.2.1).2.2.1, .str (ZgT x.1 x.2.1).2.2.2],fun _=>[],fun x hx=>Zyc x.1 x.2.1,Tryz.call110⟩
theorem ZBu (m:Zax):Zat Tryz.prog 85 [.ag (cellsOf Zah m)] (.c (.int .i64 (ZFo m))) []:=by
  refine bc0 [] [] [] [] L0 Tryz.func85 (fun hwf=>?_)
  refine Eq.mpr (β:=(T5 (bif (eqI m.1 5) then (T3 (rI m.2.2.1 (ZFo m))) else (True∧(rI 0 (ZFo m)))))) (by kernel_rfl) ?_
  simp only [Zbw,ZbG,Zbf,Bool.not_true,Bool.not_false,Zd0,eq_self]
  repeat' (first | apply And.intro | intro _)
  all_goals first
    | trivial
    | omega
    | contradiction
    | exact ⟨rfl,rfl⟩
    | (show _ + 1≤rowMax; unfold rowMax; omega)
    | (simp only [ZFo, *,eq_self,if_true,if_false,and_true,true_and,and_self,not_true,not_false,false_and,and_false,or_true,true_or,or_false,false_or,or_self,Bool.false_eq_true,reduceCtorEq,reduceIte,Int.reduceEq,not_false_eq_true,not_true_eq_false,ite_true,ite_false,Bool.and_true,Bool.true_and,Bool.and_false,Bool.false_and,Bool.or_true,Bool.true_or,Bool.or_false,Bool.false_or,Bool.not_true,Bool.not_false]; done)
    | (simp_all [ZFo,eqI,neI,geI,eqS]; done)
def ZBv:ZaI Tryz.prog:=⟨85,[.s Zah],fun x=>True,fun x=>.c (.int .i64 (ZFo x.1)),fun _=>[],fun x hx=>ZBu x.1,Tryz.call85⟩
def ZrZ (s:Zal):Prop:=((cB s.1 s.1)∧(cI s.2.1 s.2.1)∧(cI s.2.2.1 s.2.2.1)∧(cI s.2.2.2.1 s.2.2.2.1)∧(true=true∧leC (.hs .no ZaN s.2.2.2.2.1) (.hs .no ZaN s.2.2.2.2.1))∧(cB s.2.2.2.2.2.1.1 s.2.2.2.2.2.1.1)∧(true=true∧leC (.hs .no Zar s.2.2.2.2.2.1.2) (.hs .no Zar s.2.2.2.2.2.1.2))∧(cS s.2.2.2.2.2.2.1 s.2.2.2.2.2.2.1)∧(cS s.2.2.2.2.2.2.2.1 s.2.2.2.2.2.2.2.1)∧(true=true∧leC (.hs .no Zai s.2.2.2.2.2.2.2.2.1.1) (.hs .no Zai s.2.2.2.2.2.2.2.2.1.1))∧(cB s.2.2.2.2.2.2.2.2.1.2.1 s.2.2.2.2.2.2.2.2.1.2.1)∧(cB s.2.2.2.2.2.2.2.2.1.2.2 s.2.2.2.2.2.2.2.2.1.2.2)∧(cS s.2.2.2.2.2.2.2.2.2.1.1 s.2.2.2.2.2.2.2.2.2.1.1)∧(cB s.2.2.2.2.2.2.2.2.2.1.2 s.2.2.2.2.2.2.2.2.2.1.2)∧(cS s.2.2.2.2.2.2.2.2.2.2.1.1 s.2.2.2.2.2.2.2.2.2.2.1.1)∧(cS s.2.2.2.2.2.2.2.2.2.2.1.2 s.2.2.2.2.2.2.2.2.2.2.1.2)∧(cI s.2.2.2.2.2.2.2.2.2.2.2 s.2.2.2.2.2.2.2.2.2.2.2)∧True)
def Zr0 (m:Zax):Prop:=((cI m.1 m.1)∧(cI m.2.1 m.2.1)∧(cI m.2.2.1 m.2.2.1)∧(cI m.2.2.2.1 m.2.2.2.1)∧(cS m.2.2.2.2.1 m.2.2.2.2.1)∧(cS m.2.2.2.2.2 m.2.2.2.2.2)∧True)
theorem Zqb (kind:Int) (name:ByteArray) (s:Zal) (m:Zax) (out:List Zay) (hpre:List.length out≤1048576):Zc0 Tryz.prog 204 (ZcX 0 [(.a (.v ZaC)),(.a (.v ZaK)),(.b Zae),(.b Zah),(.m (.list Zai))] (kind,name,s,m,out,())) (Zga 0 [(.a (.v ZaC)),(.a (.v ZaK)),(.b Zae),(.b Zah),(.m (.list Zai))] (kind,name,s,m,out,())) (ZdF 0 [(.a (.v ZaC)),(.a (.v ZaK)),(.b Zae),(.b Zah),(.m (.list Zai))] (kind,name,s,m,ZBs out s m kind name,()) ++ []) (inpM 0 [(.a (.v ZaC)),(.a (.v ZaK)),(.b Zae),(.b Zah),(.m (.list Zai))]) (.tp []):=by
  refine Zb1 (T:=⟨[Zx9,ZA7],[],[],[],none,fun _=>[],4,[],[]⟩) (L:=L0) Tryz.func204 rfl rfl rfl (by kernel_rfl) (fun hwf hwm=>?_)
  refine Eq.mpr (β:=((pt (true=true))∧(T3 (bif (!eqS name (⟨#[]⟩:ByteArray)) then (T4 ((pt True)∧((pt True)∧(True∧(bif admitsB s.2.2.2.2.2.1 (⟨#[]⟩:ByteArray) name (ZrY m) then (T5 ((True∧List.length out + List.length ([(kind,(0,(0,name)))])≤rowMax)∧(True∧(pt ((((ZrZ s))∧((Zr0 m))∧((((out ++ [(kind,(0,(0,name)))])=(ZBs out s m kind name))∧True))∧True)∧((True))))))) else (pt ((((ZrZ s))∧((Zr0 m))∧(((out=(ZBs out s m kind name))∧True))∧True)∧((True))))))))) else (True∧(pt ((((ZrZ s))∧((Zr0 m))∧(((out=(ZBs out s m kind name))∧True))∧True)∧((True))))))))) (by kernel_rfl) ?_
  unfold Zr0 ZrZ T3 T4 T5
  simp only [Zbw,ZbG,Zbf,Bool.not_true,Bool.not_false,Zd0,eq_self]
  repeat' (first | apply And.intro | intro _)
  all_goals first
    | trivial
    | omega
    | contradiction
    | exact ⟨rfl,rfl⟩
    | (show _ + 1≤rowMax; unfold rowMax; omega)
    | (simp only [ZBs,ZcB, *,eq_self,if_true,if_false,and_true,true_and,and_self,not_true,not_false,false_and,and_false,or_true,true_or,or_false,false_or,or_self,Bool.false_eq_true,reduceCtorEq,reduceIte,Int.reduceEq,not_false_eq_true,not_true_eq_false,ite_true,ite_false,Bool.and_true,Bool.true_and,Bool.and_false,Bool.false_and,Bool.or_true,Bool.true_or,Bool.or_false,Bool.false_or,Bool.not_true,Bool.not_false]; done)
    | (simp_all [ZBs,ZcB,eqI,neI,geI,eqS]; done)
def Zqc:Zcd Tryz.prog:=⟨204,[(.a (.v ZaC)),(.a (.v ZaK)),(.b Zae),(.b Zah),(.m (.list Zai))],fun x=>List.length x.2.2.2.2.1≤1048576,fun x=>(x.1,x.2.1,x.2.2.1,x.2.2.2.1,ZBs x.2.2.2.2.1 x.2.2.1 x.2.2.2.1 x.1 x.2.1,()),fun x=>.tp [],fun _=>[],fun x hx=>Zqb x.1 x.2.1 x.2.2.1 x.2.2.2.1 x.2.2.2.2.1 hx,Tryz.call204⟩
theorem ZtK (f:ZbP) (kind:Int) (name:ByteArray) (ev:Int):Zat Tryz.prog 119 [.ag [.bool f.1, .hs .no Zar f.2], .c (.int .i64 kind), .c (.str name), .c (.int .i64 ev)] (.c (.row 0 0)) [.row Zai (ZcB f kind name ev) 0 0 none]:=by
  refine bc0 [ZBa] [] [] [] L0 Tryz.func119 (fun hwf=>?_)
  refine Eq.mpr (β:=(T5 (bif (eqS name (⟨#[]⟩:ByteArray)) then (T3 (pt (([]:List Zay)=(ZcB f kind name ev)))) else (T3 ((pt True)∧(T2 (bif (!(admitsB f (⟨#[]⟩:ByteArray) name ev)) then (T2 (pt (([]:List Zay)=(ZcB f kind name ev)))) else (T5 (pt (([(kind,(0,(0,name)))])=(ZcB f kind name ev))))))))))) (by kernel_rfl) ?_
  simp only [Zbw,ZbG,Zbf,Bool.not_true,Bool.not_false,Zd0,eq_self]
  repeat' (first | apply And.intro | intro _)
  all_goals first
    | trivial
    | omega
    | contradiction
    | exact ⟨rfl,rfl⟩
    | (show _ + 1≤rowMax; unfold rowMax; omega)
    | (simp only [ZcB, *,eq_self,if_true,if_false,and_true,true_and,and_self,not_true,not_false,false_and,and_false,or_true,true_or,or_false,false_or,or_self,Bool.false_eq_true,reduceCtorEq,reduceIte,Int.reduceEq,not_false_eq_true,not_true_eq_false,ite_true,ite_false,Bool.and_true,Bool.true_and,Bool.and_false,Bool.false_and,Bool.or_true,Bool.true_or,Bool.or_false,Bool.false_or,Bool.not_true,Bool.not_false]; done)
    | (simp_all [ZcB,eqI,neI,geI,eqS]; done)
def ZtL:ZaI Tryz.prog:=⟨119,[.s Zdi, .v ZaC, .v ZaK, .v ZaC],fun x=>True,fun x=>.c (.row 0 0),fun x=>[.row Zai (ZcB x.1 x.2.1 x.2.2.1 x.2.2.2.1) 0 0 none],fun x hx=>ZtK x.1 x.2.1 x.2.2.1 x.2.2.2.1,Tryz.call119⟩
def Zye (s:Zal):Prop:=((cB s.1 s.1)∧(cI s.2.1 s.2.1)∧(cI s.2.2.1 s.2.2.1)∧(cI s.2.2.2.1 s.2.2.2.1)∧(true=true∧leC (.hs .no ZaN s.2.2.2.2.1) (.hs .no ZaN s.2.2.2.2.1))∧(cB s.2.2.2.2.2.1.1 s.2.2.2.2.2.1.1)∧(true=true∧leC (.hs .no Zar s.2.2.2.2.2.1.2) (.hs .no Zar s.2.2.2.2.2.1.2))∧(cS s.2.2.2.2.2.2.1 s.2.2.2.2.2.2.1)∧(cS s.2.2.2.2.2.2.2.1 s.2.2.2.2.2.2.2.1)∧(true=true∧leC (.hs .no Zai s.2.2.2.2.2.2.2.2.1.1) (.hs .no Zai s.2.2.2.2.2.2.2.2.1.1))∧(cB s.2.2.2.2.2.2.2.2.1.2.1 s.2.2.2.2.2.2.2.2.1.2.1)∧(cB s.2.2.2.2.2.2.2.2.1.2.2 s.2.2.2.2.2.2.2.2.1.2.2)∧(cS s.2.2.2.2.2.2.2.2.2.1.1 s.2.2.2.2.2.2.2.2.2.1.1)∧(cB s.2.2.2.2.2.2.2.2.2.1.2 s.2.2.2.2.2.2.2.2.2.1.2)∧(cS s.2.2.2.2.2.2.2.2.2.2.1.1 s.2.2.2.2.2.2.2.2.2.2.1.1)∧(cS s.2.2.2.2.2.2.2.2.2.2.1.2 s.2.2.2.2.2.2.2.2.2.2.1.2)∧(cI s.2.2.2.2.2.2.2.2.2.2.2 s.2.2.2.2.2.2.2.2.2.2.2)∧True)
def Zyf (st:Za7) (n:Int):Prop:=((cI (Zac st.2.1 (Int.toNat n)).1 (Zac st.2.1 (Int.toNat n)).1)∧(cI (Zac st.2.1 (Int.toNat n)).2.1 (Zac st.2.1 (Int.toNat n)).2.1)∧(cI (Zac st.2.1 (Int.toNat n)).2.2.1 (Zac st.2.1 (Int.toNat n)).2.2.1)∧(cI (Zac st.2.1 (Int.toNat n)).2.2.2.1 (Zac st.2.1 (Int.toNat n)).2.2.2.1)∧(cS (Zac st.2.1 (Int.toNat n)).2.2.2.2.1 (Zac st.2.1 (Int.toNat n)).2.2.2.2.1)∧(cS (Zac st.2.1 (Int.toNat n)).2.2.2.2.2 (Zac st.2.1 (Int.toNat n)).2.2.2.2.2)∧True)
def ZnX (s:Zal) (st:Za7) (n:Int):Prop:=(pt (List.length ([]:List Zay)≤1048576∧(((Zye s))∧((Zyf st n))∧(((([]:List Zay)=([]:List Zay))∧True))∧True)))
def Zyg (s:Zal) (st:Za7) (n:Int):Prop:=(T6 ((pt True)∧((ZnX s st n)∧∀ r0:List Zay,r0=ZBs ([]:List Zay) s (Zac st.2.1 (Int.toNat n)) 2 (Zfg st (Zac st.2.1 (Int.toNat n)).2.1 (w64 (n + 1))).1.1→(T2 (pt (r0=(Zb7 st s n)))))))
def Zr1 (s:Zal) (st:Za7) (n:Int):Prop:=(T4 (bif (eqI s.2.1 3) then (T6 (bif (eqI s.2.2.1 (Zac st.2.1 (Int.toNat n)).2.1) then (T2 ((pt True)∧(T2 (pt (([(ZgT (Zac st.2.1 (Int.toNat n)) n)])=(Zb7 st s n)))))) else (Zyg s st n))) else (True∧(Zyg s st n))))
def Zyh (n:Int) (st:Za7) (s:Zal):Prop:=(T3 ((ix 6 n (List.length st.2.1))∧(T12 (bif (eqI (Zac st.2.1 (Int.toNat n)).1 4) then (Zr1 s st n) else (T2 (bif (eqI (Zac st.2.1 (Int.toNat n)).1 5) then (Zr1 s st n) else (T2 (bif (eqI (Zac st.2.1 (Int.toNat n)).1 6) then (Zr1 s st n) else (T2 (bif (eqI (Zac st.2.1 (Int.toNat n)).1 1) then (T3 ((ZnX s st n)∧∀ r0:List Zay,r0=ZBs ([]:List Zay) s (Zac st.2.1 (Int.toNat n)) 3 (Zac st.2.1 (Int.toNat n)).2.2.2.2.1→(T2 (pt (r0=(Zb7 st s n)))))) else (T2 (bif (eqI (Zac st.2.1 (Int.toNat n)).1 2) then (T5 ((pt True)∧((ZnX s st n)∧∀ r0:List Zay,r0=ZBs ([]:List Zay) s (Zac st.2.1 (Int.toNat n)) 4 (Zfg st (Zac st.2.1 (Int.toNat n)).2.1 n).1.1→(T2 (pt (r0=(Zb7 st s n))))))) else (T2 (bif (eqI (Zac st.2.1 (Int.toNat n)).1 3) then (T5 ((pt True)∧((ZnX s st n)∧∀ r0:List Zay,r0=ZBs ([]:List Zay) s (Zac st.2.1 (Int.toNat n)) 4 (Zfg st (Zac st.2.1 (Int.toNat n)).2.1 n).1.1→(T3 ((pt (List.length r0≤1048576∧(((Zye s))∧((Zyf st n))∧(((r0=r0)∧True))∧True)))∧∀ r1:List Zay,r1=ZBs r0 s (Zac st.2.1 (Int.toNat n)) 3 (Zac st.2.1 (Int.toNat n)).2.2.2.2.1→(T2 (pt (r1=(Zb7 st s n))))))))) else (T2 (pt (([]:List Zay)=(Zb7 st s n))))))))))))))))))
theorem ZtM (st:Za7) (s:Zal) (n:Int):Zat Tryz.prog 125 [.ag (cellsOf ZbI st), .ag (cellsOf Zae s), .c (.int .i64 n)] (.c (.row 0 0)) [.row Zai (Zb7 st s n) 0 0 none]:=by
  refine bc0 [Zex,Zyd,ZBp] [] [] [Zqc] L0 Tryz.func125 (fun hwf=>?_)
  refine Eq.mpr (β:=(T8 ((pt True)∧(T2 (bif (!(btw n 0 (w64 ((List.length st.2.1:Int) - 1)))) then (T4 (pt (Zb7 st s n=[]))) else (T5 (bif (!s.1) then (T2 (pt (Zb7 st s n=[]))) else (T4 (bif (neI s.2.1 2) then (T5 (bif (neI s.2.1 3) then (True∧(pt (Zb7 st s n=[]))) else (Zyh n st s))) else (T2 (Zyh n st s))))))))))) (by kernel_rfl) ?_
  unfold Zyh Zr1 Zyg ZnX Zyf Zye T12 T2 T3 T4 T5 T6 T8
  exact ZvG
def ZtN:ZaI Tryz.prog:=⟨125,[.s ZbI, .s Zae, .v ZaC],fun x=>True,fun x=>.c (.row 0 0),fun x=>[.row Zai (Zb7 x.1 x.2.1 x.2.2.1) 0 0 none],fun x hx=>ZtM x.1 x.2.1 x.2.2.1,Tryz.call125⟩
def Zyi (s:Zal) (st:Za7) (n:Int):Prop:=((pt (true=true))∧(T8 ((pt True)∧((pt True)∧((pt True)∧(True∧(pt ((ZcB s.2.2.2.2.2.1 2 (Zfg st (Zac st.2.1 (Int.toNat n)).2.1 (w64 (n + 1))).1.1 (ZrY (Zac st.2.1 (Int.toNat n))))=(Zb7 st s n)))))))))
def Zr2 (s:Zal) (st:Za7) (n:Int):Prop:=(T4 (bif (eqI s.2.1 3) then (T6 (bif (eqI s.2.2.1 (Zac st.2.1 (Int.toNat n)).2.1) then (T2 ((pt True)∧(T3 (pt (([(1,(n,(ZFo (Zac st.2.1 (Int.toNat n)),(⟨#[]⟩:ByteArray))))])=(Zb7 st s n)))))) else (Zyi s st n))) else (True∧(Zyi s st n))))
def ZnY (st:Za7) (s:Zal) (n:Int):Prop:=(T2 (pt (([]:List Zay)=(Zb7 st s n))))
def Zyj (n:Int) (st:Za7) (s:Zal):Prop:=(T3 ((ix 6 n (List.length st.2.1))∧(T7 (bif (eqI (Zac st.2.1 (Int.toNat n)).1 1) then (T4 ((pt True)∧(True∧(pt ((ZcB s.2.2.2.2.2.1 3 (Zac st.2.1 (Int.toNat n)).2.2.2.2.1 8)=(Zb7 st s n)))))) else (T2 (bif (eqI (Zac st.2.1 (Int.toNat n)).1 2) then ((pt (true=true))∧(T6 ((pt True)∧((pt True)∧(True∧(pt ((ZcB s.2.2.2.2.2.1 4 (Zfg st (Zac st.2.1 (Int.toNat n)).2.1 n).1.1 8)=(Zb7 st s n)))))))) else (T2 (bif (eqI (Zac st.2.1 (Int.toNat n)).1 3) then ((pt (true=true))∧(T6 ((pt True)∧((pt True)∧(T6 ((pt True)∧((True∧List.length (ZcB s.2.2.2.2.2.1 4 (Zfg st (Zac st.2.1 (Int.toNat n)).2.1 n).1.1 8) + List.length (ZcB s.2.2.2.2.2.1 3 (Zac st.2.1 (Int.toNat n)).2.2.2.2.1 8)≤rowMax)∧(True∧(pt ((ZcB s.2.2.2.2.2.1 4 (Zfg st (Zac st.2.1 (Int.toNat n)).2.1 n).1.1 8 ++ ZcB s.2.2.2.2.2.1 3 (Zac st.2.1 (Int.toNat n)).2.2.2.2.1 8)=(Zb7 st s n))))))))))) else (T2 (bif (eqI (Zac st.2.1 (Int.toNat n)).1 4) then (Zr2 s st n) else (T2 (bif (eqI (Zac st.2.1 (Int.toNat n)).1 5) then (Zr2 s st n) else (T2 (bif (eqI (Zac st.2.1 (Int.toNat n)).1 6) then (Zr2 s st n) else (ZnY st s n)))))))))))))))
theorem ZtO (st:Za7) (s:Zal) (n:Int):Zat Tryz.prog 48 [.ag (cellsOf ZbI st), .ag (cellsOf Zae s), .c (.int .i64 n)] (.c (.row 0 0)) [.row Zai (Zb7 st s n) 0 0 none]:=by
  refine bc0 [ZhP,ZtL,ZBr,ZBv,Zyb] [] [] [] L0 Tryz.func48 (fun hwf=>?_)
  refine Eq.mpr (β:=(T8 ((pt True)∧(T2 (bif (!(btw n 0 (w64 ((List.length st.2.1:Int) - 1)))) then (T3 (ZnY st s n)) else (T5 (bif (!s.1) then (True∧(ZnY st s n)) else (T4 (bif (neI s.2.1 2) then (T5 (bif (neI s.2.1 3) then (ZnY st s n) else (Zyj n st s))) else (T2 (Zyj n st s))))))))))) (by kernel_rfl) ?_
  unfold Zyj ZnY Zr2 Zyi T2 T3 T4 T5 T6 T7 T8
  exact ZvG
def ZtP:ZaI Tryz.prog:=⟨48,[.s ZbI, .s Zae, .v ZaC],fun x=>True,fun x=>.c (.row 0 0),fun x=>[.row Zai (Zb7 x.1 x.2.1 x.2.2.1) 0 0 none],fun x hx=>ZtO x.1 x.2.1 x.2.2.1,Tryz.call48⟩
end Go.Proofs.YtkompmgleojmlaaGreat
