import Derived.Test.YtkompmgleojmlaaGreatDBxPerf
set_option linter.unusedSimpArgs false
set_option linter.unusedVariables false
set_option maxRecDepth 100000
set_option maxHeartbeats 4000000
namespace Go.Proofs.YtkompmgleojmlaaGreat
open Go.ChangeShapes Go.WideShapes Go.ChangeAt Go.RowKit Go.Joins Go.Deep
open GoRep (rep bulk)
def ZaY (b:Int):Bool:=btw b 0 31
theorem ZwU (b:Int):Zai Tryz.prog 173 [.c (.int .i64 b)] (.c (.bool (ZaY b))) []:=by
  refine bc0 [Zb0] [] [] [] L0 Tryz.func173 (fun hwf=>?_)
  exact Zvc
def Zji:Zat Tryz.prog:=⟨173,[.v ZaC],fun x=>True,fun x=>.c (.bool (ZaY x.1)),fun _=>[],fun x hx=>ZwU x.1,Tryz.call173⟩
theorem ZwV (b:Int):Zai Tryz.prog 152 [.c (.int .i64 b)] (.c (.bool (ZaY b))) []:=by
  refine bc0 [ZbW] [] [] [] L0 Tryz.func152 (fun hwf=>?_)
  exact Zvc
def Zjj:Zat Tryz.prog:=⟨152,[.v ZaC],fun x=>True,fun x=>.c (.bool (ZaY x.1)),fun _=>[],fun x hx=>ZwV x.1,Tryz.call152⟩
theorem ZE8 (n:Int):Zai Tryz.prog 102 [.c (.int .i64 n)] (.c (.bool (btw n 1 999999999))) []:=by
  refine bc0 [Zb0] [] [] [] L0 Tryz.func102 (fun hwf=>?_)
  exact Zwy
def ZqD:Zat Tryz.prog:=⟨102,[.v ZaC],fun x=>True,fun x=>.c (.bool (btw x.1 1 999999999)),fun _=>[],fun x hx=>ZE8 x.1,Tryz.call102⟩
theorem Zsz (n:Int):Zai Tryz.prog 73 [.c (.int .i64 n)] (.c (.bool (btw n 1 999999999))) []:=by
  refine bc0 [ZbW] [] [] [] L0 Tryz.func73 (fun hwf=>?_)
  exact Zwy
def ZhB:Zat Tryz.prog:=⟨73,[.v ZaC],fun x=>True,fun x=>.c (.bool (btw x.1 1 999999999)),fun _=>[],fun x hx=>Zsz x.1,Tryz.call73⟩
theorem ZCE {b:Zaw} (h:1≤b.2.2.1→∀ i,i < b.2.2.2.length→¬ ZdT b i):Zdf b=(Zbo b.1 && (btw b.2.1 1 999999999 && (btw b.2.2.1 1 999999999 && decide (b.2.2.2.length≤6)))):=by
  rw [Bool.eq_iff_iff,ZfA]
  simp only [Bool.and_eq_true,Zbd,decide_eq_true_eq]
  exact ⟨fun q=>q.2,fun q=>⟨h q.2.2.1.1,q⟩⟩
theorem I64.lohi {x:Int} (h:(Lit.int .i64 x).wf=true) : -9223372036854775808≤x∧x≤9223372036854775807:=⟨I64.lo h,I64.hi h⟩
def ZCF (b:Zaw):Nat→List AV→Mem→Za3
  | 2,tm,M=>⟨Nat,fun y=>(Zb2 (Zb2 (Zcx tm [(8, .c (.int .i64 ((y:Nat):Int)))]) 2 3) 9 40,M),fun y=>(y≤List.length b.2.2.2∧(1≤b.2.2.1→∀ j,j < y→¬ ZdT b j)),fun y=>(List.length b.2.2.2 - y)⟩
  | _,_,_=>⟨Unit,fun _=>([],[]),fun _=>False,fun _=>0⟩
def ZmH (b:Zaw):List AC:=[.str b.1, .int .i64 b.2.1, .int .i64 b.2.2.1, .hs .no ZaF b.2.2.2]
def ZwW (b:Zaw) (y0:Nat):Prop:=(T2 (∃ y0' : Nat,(y0'≤List.length b.2.2.2∧(1≤b.2.2.1→∀ j,j < y0'→¬ ZdT b j))∧(List.length b.2.2.2 - y0') < (List.length b.2.2.2 - y0)∧((lxs [.ag (ZmH b), .c (.bp 0 0)] (TN 3 (lxs [.c (.bp 0 3),hn ZaF b.2.2.2,ci (List.length b.2.2.2)] (vI (w64 ((y0:Int) + 1)) y0'∧TN 40 (tpn 19 True)))))∧pt (lb (.box (ZmH b))∧True))))
theorem ZCG (b:Zaw):Zai Tryz.prog 269 [.ag (cellsOf Zaf b)] (.c (.bool (Zdf b))) []:=by
  refine bc0 [Zb0,Zji,Zit,ZqD] [] [] [] (ZCF b) Tryz.func269 (fun hwf=>?_)
  refine Eq.mpr (β:=(T6 ((∃ q:Nat,(q≤List.length b.2.2.2∧(1≤b.2.2.1→∀ j,j < q→¬ ZdT b j))∧((lxs [.ag (ZmH b), .c (.bp 0 0)] (TN 3 (lxs [.c (.bp 0 3),hn ZaF b.2.2.2,ci (List.length b.2.2.2)] (vI 0 q∧TN 40 (tpn 19 True)))))∧pt (lb (.box (ZmH b))∧True)))∧∀ y0:Nat,(y0≤List.length b.2.2.2∧(1≤b.2.2.1→∀ j,j < y0→¬ ZdT b j))→(True∧(bif (ltI y0 (List.length b.2.2.2)) then (True∧((ix 3 y0 (List.length b.2.2.2))∧(T4 ((pt (true=true))∧(T5 ((pt True)∧(T2 (bif (!(btw (Zay b.2.2.2 y0).1 1 (w64 (b.2.2.1 - 1)))) then (T6 (rB false (Zdf b))) else (T2 ((pt True)∧(T3 (bif (!(ZaY (Zay b.2.2.2 y0).2.1)) then (T4 (rB false (Zdf b))) else (T6 (bif (gtI (ByteArray.size (Zay b.2.2.2 y0).2.2) 40) then (T2 (rB false (Zdf b))) else (T3 (bif (gtI y0 0) then (T6 ((ix 3 (w64 ((y0:Int) - 1)) (List.length b.2.2.2))∧(T5 (bif (leI (Zay b.2.2.2 y0).1 (Zay b.2.2.2 (Int.toNat (w64 ((y0:Int) - 1)))).1) then (True∧(rB false (Zdf b))) else (ZwW b y0))))) else (T2 (ZwW b y0)))))))))))))))))) else (T2 ((pt True)∧(True∧(bif Zbo b.1 then (T2 ((pt True)∧(T2 (bif btw b.2.1 1 999999999 then (T2 ((pt True)∧(T2 (bif btw b.2.2.1 1 999999999 then (T6 (rB (leI (List.length b.2.2.2) 6) (Zdf b))) else (T2 (rB false (Zdf b))))))) else (T4 (rB false (Zdf b))))))) else (T6 (rB false (Zdf b)))))))))))) (by kernel_rfl) ?_
  unfold ZwW ZmH T2 T3 T4 T5 T6
  have hm:List.length b.2.2.2≤maxLen:=hwf.1.2.2.2.1.1
  have hnx : -9223372036854775808≤b.2.2.1∧b.2.2.1≤9223372036854775807:=I64.lohi hwf.1.2.2.1
  unfold maxLen at hm
  have w1:1≤b.2.2.1→IntKind.wrap .i64 (b.2.2.1 - 1)=b.2.2.1 - 1:=fun h=>Zgf (by omega) (by omega)
  have w2:=Zge (b.2.2.1 - 1)
  simp only [Zbd,Zbs,ZaY,Bool.not_true,Bool.not_false,Zdy,eq_self]
  refine ⟨⟨0,⟨Nat.zero_le _,fun _=>ZaH⟩,rfl⟩,fun k hk=>⟨fun hlt=>?_,fun hge=>?_⟩⟩
  · exact ZuX
  · obtain rfl:k=List.length b.2.2.2:=by omega
    have hall:=ZCE hk.2
    repeat' (first | apply And.intro | intro _)
    all_goals first
      | trivial
      | (rw [hall,Bool.eq_iff_iff]; simp_all [Zbd,Zbs,ZbD]; done)
      | (rw [hall,Bool.eq_iff_iff]; simp_all [Zbd,Zbs,ZbD]; omega)
def ZCH:Zat Tryz.prog:=⟨269,[.s Zaf],fun x=>True,fun x=>.c (.bool (Zdf x.1)),fun _=>[],fun x hx=>ZCG x.1,Tryz.call269⟩
def ZCI (b:Zaw):Nat→List AV→Mem→Za3
  | 4,tm,M=>⟨Nat,fun y=>(Zb2 (Zcx tm [(2, .any),(3, .c (.int .i64 ((y:Nat):Int))),(4, .any)]) 27 47,M),fun y=>(y≤List.length b.2.2.2∧(1≤b.2.2.1→∀ j,j < y→¬ ZdT b j)),fun y=>(List.length b.2.2.2 - y)⟩
  | _,_,_=>⟨Unit,fun _=>([],[]),fun _=>False,fun _=>0⟩
def ZmI (b:Zaw):List AC:=[.str b.1, .int .i64 b.2.1, .int .i64 b.2.2.1, .hs .no ZaF b.2.2.2]
def ZwX (b:Zaw) (y0:Nat):Prop:=(T2 ((pt True)∧(T3 (bif (!(ZaY (Zay b.2.2.2 y0).2.1)) then (T2 (rB false (Zdf b))) else (T5 (bif (gtI (ByteArray.size (Zay b.2.2.2 y0).2.2) 40) then (True∧(rB false (Zdf b))) else (T3 (∃ y0' : Nat,(y0'≤List.length b.2.2.2∧(1≤b.2.2.1→∀ j,j < y0'→¬ ZdT b j))∧(List.length b.2.2.2 - y0') < (List.length b.2.2.2 - y0)∧((lxs [.ag (ZmI b), .c (.bp 0 0)] (True∧vI (w64 ((y0:Int) + 1)) y0'∧True∧lxs [.c (.bp 0 0), .c (.str b.1), .c (.bool (Zbo b.1)), .c (.bool (!(Zbo b.1))), .c (.bool false), .c (.bp 0 1),ci b.2.1, .c (.bool (btw b.2.1 1 999999999)), .c (.bool (!(btw b.2.1 1 999999999))), .c (.bool (!(btw b.2.1 1 999999999))), .c (.bool false), .c (.bp 0 2),ci b.2.2.1, .c (.bool (btw b.2.2.1 1 999999999)), .c (.bool (!(btw b.2.2.1 1 999999999))), .c (.bool (!(btw b.2.2.1 1 999999999))), .c (.bool false), .c (.bp 0 3),hn ZaF b.2.2.2,ci (List.length b.2.2.2), .c (.bool (gtI (List.length b.2.2.2) 6)), .c (.bool false)] (TN 47 True)))∧pt (lb (.box (ZmI b))∧True))))))))))
theorem ZCJ (b:Zaw):Zai Tryz.prog 289 [.ag (cellsOf Zaf b)] (.c (.bool (Zdf b))) []:=by
  refine bc0 [Ziu,ZhB,ZbW,Zjj] [] [] [] (ZCI b) Tryz.func289 (fun hwf=>?_)
  refine Eq.mpr (β:=(T4 ((pt True)∧(T2 (bif (!(Zbo b.1)) then (T6 (rB false (Zdf b))) else (T2 ((pt True)∧(T3 (bif (!(btw b.2.1 1 999999999)) then (T4 (rB false (Zdf b))) else (T2 ((pt True)∧(T3 (bif (!(btw b.2.2.1 1 999999999)) then (T2 (rB false (Zdf b))) else (T5 (bif (gtI (List.length b.2.2.2) 6) then (True∧(rB false (Zdf b))) else (True∧((∃ q:Nat,(q≤List.length b.2.2.2∧(1≤b.2.2.1→∀ j,j < q→¬ ZdT b j))∧((lxs [.ag (ZmI b), .c (.bp 0 0)] (True∧vI 0 q∧True∧lxs [.c (.bp 0 0), .c (.str b.1), .c (.bool (Zbo b.1)), .c (.bool (!(Zbo b.1))), .c (.bool false), .c (.bp 0 1),ci b.2.1, .c (.bool (btw b.2.1 1 999999999)), .c (.bool (!(btw b.2.1 1 999999999))), .c (.bool (!(btw b.2.1 1 999999999))), .c (.bool false), .c (.bp 0 2),ci b.2.2.1, .c (.bool (btw b.2.2.1 1 999999999)), .c (.bool (!(btw b.2.2.1 1 999999999))), .c (.bool (!(btw b.2.2.1 1 999999999))), .c (.bool false), .c (.bp 0 3),hn ZaF b.2.2.2,ci (List.length b.2.2.2), .c (.bool (gtI (List.length b.2.2.2) 6)), .c (.bool false)] (TN 47 True)))∧pt (lb (.box (ZmI b))∧True)))∧∀ y0:Nat,(y0≤List.length b.2.2.2∧(1≤b.2.2.1→∀ j,j < y0→¬ ZdT b j))→(T5 (bif (ltI y0 (List.length b.2.2.2)) then (T3 ((ix 3 y0 (List.length b.2.2.2))∧(T3 ((pt (true=true))∧(T5 ((pt True)∧(T2 (bif (!(btw (Zay b.2.2.2 y0).1 1 (w64 (b.2.2.1 - 1)))) then (T6 (rB false (Zdf b))) else (T3 (bif (gtI y0 0) then (T4 ((ix 3 (w64 ((y0:Int) - 1)) (List.length b.2.2.2))∧(T8 (bif (geI (Zay b.2.2.2 (Int.toNat (w64 ((y0:Int) - 1)))).1 (Zay b.2.2.2 y0).1) then (T4 (rB false (Zdf b))) else (ZwX b y0))))) else (T3 (ZwX b y0)))))))))))) else (True∧(rB true (Zdf b)))))))))))))))))))))) (by kernel_rfl) ?_
  unfold ZwX ZmI T2 T3 T4 T5 T6 T8
  have hm:List.length b.2.2.2≤maxLen:=hwf.1.2.2.2.1.1
  have hnx : -9223372036854775808≤b.2.2.1∧b.2.2.1≤9223372036854775807:=I64.lohi hwf.1.2.2.1
  unfold maxLen at hm
  have w1:1≤b.2.2.1→IntKind.wrap .i64 (b.2.2.1 - 1)=b.2.2.1 - 1:=fun h=>Zgf (by omega) (by omega)
  have w2:=Zge (b.2.2.1 - 1)
  simp only [Zbd,Zbs,ZaY,Bool.not_true,Bool.not_false,Zdy,eq_self]
  refine ⟨fun h1=>?_,fun h1=>⟨fun h2=>?_,fun h2=>⟨fun h3=>?_,fun h3=>⟨fun h4=>?_,fun h4=>⟨⟨0,⟨Nat.zero_le _,fun _=>ZaH⟩,rfl⟩,fun k hk=>⟨fun hlt=>?_,fun hge=>?_⟩⟩⟩⟩⟩⟩
  · exact (ZoC (fun q=>by rw [q.1] at h1; cases h1)).symm
  · exact ZoW
  · exact ZoW
  · exact ZoW
  · exact ZuX
  · obtain rfl:k=List.length b.2.2.2:=by omega
    exact (ZEx (hk.2 (by omega)) ⟨h1,h2,h3,by omega⟩).symm
def ZCK:Zat Tryz.prog:=⟨289,[.s Zaf],fun x=>True,fun x=>.c (.bool (Zdf x.1)),fun _=>[],fun x hx=>ZCJ x.1,Tryz.call289⟩
end Go.Proofs.YtkompmgleojmlaaGreat
