import Derived.Test.YtkompmgleojmlaaGreatFBxPerf
set_option linter.unusedSimpArgs false
set_option linter.unusedVariables false
set_option maxRecDepth 100000
set_option maxHeartbeats 4000000
namespace Go.Proofs.YtkompmgleojmlaaGreat
open Go.ChangeShapes Go.WideShapes Go.ChangeAt Go.RowKit Go.Joins Go.Deep
open GoRep (rep bulk)
def Zbf (b:Int):Bool:=btw b 0 31
theorem ZxC (b:Int):Zat Tryz.prog 173 [.c (.int .i64 b)] (.c (.bool (Zbf b))) []:=by
  refine bc0 [Zex] [] [] [] L0 Tryz.func173 (fun hwf=>?_)
  exact ZvX
def Znu:ZaI Tryz.prog:=⟨173,[.v ZaC],fun x=>True,fun x=>.c (.bool (Zbf x.1)),fun _=>[],fun x hx=>ZxC x.1,Tryz.call173⟩
theorem ZxD (b:Int):Zat Tryz.prog 152 [.c (.int .i64 b)] (.c (.bool (Zbf b))) []:=by
  refine bc0 [ZhP] [] [] [] L0 Tryz.func152 (fun hwf=>?_)
  exact ZvX
def Znv:ZaI Tryz.prog:=⟨152,[.v ZaC],fun x=>True,fun x=>.c (.bool (Zbf x.1)),fun _=>[],fun x hx=>ZxD x.1,Tryz.call152⟩
theorem ZFz (n:Int):Zat Tryz.prog 102 [.c (.int .i64 n)] (.c (.bool (btw n 1 999999999))) []:=by
  refine bc0 [Zex] [] [] [] L0 Tryz.func102 (fun hwf=>?_)
  exact Zxf
def Zz7:ZaI Tryz.prog:=⟨102,[.v ZaC],fun x=>True,fun x=>.c (.bool (btw x.1 1 999999999)),fun _=>[],fun x hx=>ZFz x.1,Tryz.call102⟩
theorem Ztf (n:Int):Zat Tryz.prog 73 [.c (.int .i64 n)] (.c (.bool (btw n 1 999999999))) []:=by
  refine bc0 [ZhP] [] [] [] L0 Tryz.func73 (fun hwf=>?_)
  exact Zxf
def Zmn:ZaI Tryz.prog:=⟨73,[.v ZaC],fun x=>True,fun x=>.c (.bool (btw x.1 1 999999999)),fun _=>[],fun x hx=>Ztf x.1,Tryz.call73⟩
theorem ZDb {b:ZaM} (h:1≤b.2.2.1→∀ i,i < b.2.2.2.length→¬ Zep b i):Zdz b=(Zbx b.1 && (btw b.2.1 1 999999999 && (btw b.2.2.1 1 999999999 && decide (b.2.2.2.length≤6)))):=by
  rw [Bool.eq_iff_iff,Zgm]
  simp only [Bool.and_eq_true,Zbw,decide_eq_true_eq]
  exact ⟨fun q=>q.2,fun q=>⟨h q.2.2.1.1,q⟩⟩
theorem I64.lohi {x:Int} (h:(Lit.int .i64 x).wf=true) : -9223372036854775808≤x∧x≤9223372036854775807:=⟨I64.lo h,I64.hi h⟩
def ZDc (b:ZaM):Nat→List AV→Mem→Zbn
  | 2,tm,M=>⟨Nat,fun y=>(ZcN (ZcN (ZcV tm [(8, .c (.int .i64 ((y:Nat):Int)))]) 2 3) 9 40,M),fun y=>(y≤List.length b.2.2.2∧(1≤b.2.2.1→∀ j,j < y→¬ Zep b j)),fun y=>(List.length b.2.2.2 - y)⟩
  | _,_,_=>⟨Unit,fun _=>([],[]),fun _=>False,fun _=>0⟩
def Znw (b:ZaM):List AC:=[.str b.1, .int .i64 b.2.1, .int .i64 b.2.2.1, .hs .no ZaT b.2.2.2]
def ZxE (b:ZaM) (y0:Nat):Prop:=(T2 (∃ y0' : Nat,(y0'≤List.length b.2.2.2∧(1≤b.2.2.1→∀ j,j < y0'→¬ Zep b j))∧(List.length b.2.2.2 - y0') < (List.length b.2.2.2 - y0)∧((lxs [.ag (Znw b), .c (.bp 0 0)] (TN 3 (lxs [.c (.bp 0 3),hn ZaT b.2.2.2,ci (List.length b.2.2.2)] (vI (w64 ((y0:Int) + 1)) y0'∧TN 40 (tpn 19 True)))))∧pt (lb (.box (Znw b))∧True))))
theorem ZDd (b:ZaM):Zat Tryz.prog 269 [.ag (cellsOf Zak b)] (.c (.bool (Zdz b))) []:=by
  refine bc0 [Zex,Znu,Zg7,Zz7] [] [] [] (ZDc b) Tryz.func269 (fun hwf=>?_)
  refine Eq.mpr (β:=(T6 ((∃ q:Nat,(q≤List.length b.2.2.2∧(1≤b.2.2.1→∀ j,j < q→¬ Zep b j))∧((lxs [.ag (Znw b), .c (.bp 0 0)] (TN 3 (lxs [.c (.bp 0 3),hn ZaT b.2.2.2,ci (List.length b.2.2.2)] (vI 0 q∧TN 40 (tpn 19 True)))))∧pt (lb (.box (Znw b))∧True)))∧∀ y0:Nat,(y0≤List.length b.2.2.2∧(1≤b.2.2.1→∀ j,j < y0→¬ Zep b j))→(True∧(bif (ltI y0 (List.length b.2.2.2)) then (True∧((ix 3 y0 (List.length b.2.2.2))∧(T4 ((pt (true=true))∧(T5 ((pt True)∧(T2 (bif (!(btw (ZaL b.2.2.2 y0).1 1 (w64 (b.2.2.1 - 1)))) then (T6 (rB false (Zdz b))) else (T2 ((pt True)∧(T3 (bif (!(Zbf (ZaL b.2.2.2 y0).2.1)) then (T4 (rB false (Zdz b))) else (T6 (bif (gtI (ByteArray.size (ZaL b.2.2.2 y0).2.2) 40) then (T2 (rB false (Zdz b))) else (T3 (bif (gtI y0 0) then (T6 ((ix 3 (w64 ((y0:Int) - 1)) (List.length b.2.2.2))∧(T5 (bif (leI (ZaL b.2.2.2 y0).1 (ZaL b.2.2.2 (Int.toNat (w64 ((y0:Int) - 1)))).1) then (True∧(rB false (Zdz b))) else (ZxE b y0))))) else (T2 (ZxE b y0)))))))))))))))))) else (T2 ((pt True)∧(True∧(bif Zbx b.1 then (T2 ((pt True)∧(T2 (bif btw b.2.1 1 999999999 then (T2 ((pt True)∧(T2 (bif btw b.2.2.1 1 999999999 then (T6 (rB (leI (List.length b.2.2.2) 6) (Zdz b))) else (T2 (rB false (Zdz b))))))) else (T4 (rB false (Zdz b))))))) else (T6 (rB false (Zdz b)))))))))))) (by kernel_rfl) ?_
  unfold ZxE Znw T2 T3 T4 T5 T6
  have hm:List.length b.2.2.2≤maxLen:=hwf.1.2.2.2.1.1
  have hnx : -9223372036854775808≤b.2.2.1∧b.2.2.1≤9223372036854775807:=I64.lohi hwf.1.2.2.1
  unfold maxLen at hm
  have w1:1≤b.2.2.1→IntKind.wrap .i64 (b.2.2.1 - 1)=b.2.2.1 - 1:=fun h=>ZaR (by omega) (by omega)
  have w2:=Zg4 (b.2.2.1 - 1)
  simp only [Zbw,ZbG,Zbf,Bool.not_true,Bool.not_false,Zd0,eq_self]
  refine ⟨⟨0,⟨Nat.zero_le _,fun _=>Zbl⟩,rfl⟩,fun k hk=>⟨fun hlt=>?_,fun hge=>?_⟩⟩
  · exact ZvM
  · obtain rfl:k=List.length b.2.2.2:=by omega
    have hall:=ZDb hk.2
    repeat' (first | apply And.intro | intro _)
    all_goals first
      | trivial
      | (rw [hall,Bool.eq_iff_iff]; simp_all [Zbw,ZbG,Zc3]; done)
      | (rw [hall,Bool.eq_iff_iff]; simp_all [Zbw,ZbG,Zc3]; omega)
def ZDe:ZaI Tryz.prog:=⟨269,[.s Zak],fun x=>True,fun x=>.c (.bool (Zdz x.1)),fun _=>[],fun x hx=>ZDd x.1,Tryz.call269⟩
def ZDf (b:ZaM):Nat→List AV→Mem→Zbn
  | 4,tm,M=>⟨Nat,fun y=>(ZcN (ZcV tm [(2, .any),(3, .c (.int .i64 ((y:Nat):Int))),(4, .any)]) 27 47,M),fun y=>(y≤List.length b.2.2.2∧(1≤b.2.2.1→∀ j,j < y→¬ Zep b j)),fun y=>(List.length b.2.2.2 - y)⟩
  | _,_,_=>⟨Unit,fun _=>([],[]),fun _=>False,fun _=>0⟩
def Znx (b:ZaM):List AC:=[.str b.1, .int .i64 b.2.1, .int .i64 b.2.2.1, .hs .no ZaT b.2.2.2]
def ZxF (b:ZaM) (y0:Nat):Prop:=(T2 ((pt True)∧(T3 (bif (!(Zbf (ZaL b.2.2.2 y0).2.1)) then (T2 (rB false (Zdz b))) else (T5 (bif (gtI (ByteArray.size (ZaL b.2.2.2 y0).2.2) 40) then (True∧(rB false (Zdz b))) else (T3 (∃ y0' : Nat,(y0'≤List.length b.2.2.2∧(1≤b.2.2.1→∀ j,j < y0'→¬ Zep b j))∧(List.length b.2.2.2 - y0') < (List.length b.2.2.2 - y0)∧((lxs [.ag (Znx b), .c (.bp 0 0)] (True∧vI (w64 ((y0:Int) + 1)) y0'∧True∧lxs [.c (.bp 0 0), .c (.str b.1), .c (.bool (Zbx b.1)), .c (.bool (!(Zbx b.1))), .c (.bool false), .c (.bp 0 1),ci b.2.1, .c (.bool (btw b.2.1 1 999999999)), .c (.bool (!(btw b.2.1 1 999999999))), .c (.bool (!(btw b.2.1 1 999999999))), .c (.bool false), .c (.bp 0 2),ci b.2.2.1, .c (.bool (btw b.2.2.1 1 999999999)), .c (.bool (!(btw b.2.2.1 1 999999999))), .c (.bool (!(btw b.2.2.1 1 999999999))), .c (.bool false), .c (.bp 0 3),hn ZaT b.2.2.2,ci (List.length b.2.2.2), .c (.bool (gtI (List.length b.2.2.2) 6)), .c (.bool false)] (TN 47 True)))∧pt (lb (.box (Znx b))∧True))))))))))
theorem ZDg (b:ZaM):Zat Tryz.prog 289 [.ag (cellsOf Zak b)] (.c (.bool (Zdz b))) []:=by
  refine bc0 [Zg8,Zmn,ZhP,Znv] [] [] [] (ZDf b) Tryz.func289 (fun hwf=>?_)
  refine Eq.mpr (β:=(T4 ((pt True)∧(T2 (bif (!(Zbx b.1)) then (T6 (rB false (Zdz b))) else (T2 ((pt True)∧(T3 (bif (!(btw b.2.1 1 999999999)) then (T4 (rB false (Zdz b))) else (T2 ((pt True)∧(T3 (bif (!(btw b.2.2.1 1 999999999)) then (T2 (rB false (Zdz b))) else (T5 (bif (gtI (List.length b.2.2.2) 6) then (True∧(rB false (Zdz b))) else (True∧((∃ q:Nat,(q≤List.length b.2.2.2∧(1≤b.2.2.1→∀ j,j < q→¬ Zep b j))∧((lxs [.ag (Znx b), .c (.bp 0 0)] (True∧vI 0 q∧True∧lxs [.c (.bp 0 0), .c (.str b.1), .c (.bool (Zbx b.1)), .c (.bool (!(Zbx b.1))), .c (.bool false), .c (.bp 0 1),ci b.2.1, .c (.bool (btw b.2.1 1 999999999)), .c (.bool (!(btw b.2.1 1 999999999))), .c (.bool (!(btw b.2.1 1 999999999))), .c (.bool false), .c (.bp 0 2),ci b.2.2.1, .c (.bool (btw b.2.2.1 1 999999999)), .c (.bool (!(btw b.2.2.1 1 999999999))), .c (.bool (!(btw b.2.2.1 1 999999999))), .c (.bool false), .c (.bp 0 3),hn ZaT b.2.2.2,ci (List.length b.2.2.2), .c (.bool (gtI (List.length b.2.2.2) 6)), .c (.bool false)] (TN 47 True)))∧pt (lb (.box (Znx b))∧True)))∧∀ y0:Nat,(y0≤List.length b.2.2.2∧(1≤b.2.2.1→∀ j,j < y0→¬ Zep b j))→(T5 (bif (ltI y0 (List.length b.2.2.2)) then (T3 ((ix 3 y0 (List.length b.2.2.2))∧(T3 ((pt (true=true))∧(T5 ((pt True)∧(T2 (bif (!(btw (ZaL b.2.2.2 y0).1 1 (w64 (b.2.2.1 - 1)))) then (T6 (rB false (Zdz b))) else (T3 (bif (gtI y0 0) then (T4 ((ix 3 (w64 ((y0:Int) - 1)) (List.length b.2.2.2))∧(T8 (bif (geI (ZaL b.2.2.2 (Int.toNat (w64 ((y0:Int) - 1)))).1 (ZaL b.2.2.2 y0).1) then (T4 (rB false (Zdz b))) else (ZxF b y0))))) else (T3 (ZxF b y0)))))))))))) else (True∧(rB true (Zdz b)))))))))))))))))))))) (by kernel_rfl) ?_
  unfold ZxF Znx T2 T3 T4 T5 T6 T8
  have hm:List.length b.2.2.2≤maxLen:=hwf.1.2.2.2.1.1
  have hnx : -9223372036854775808≤b.2.2.1∧b.2.2.1≤9223372036854775807:=I64.lohi hwf.1.2.2.1
  unfold maxLen at hm
  have w1:1≤b.2.2.1→IntKind.wrap .i64 (b.2.2.1 - 1)=b.2.2.1 - 1:=fun h=>ZaR (by omega) (by omega)
  have w2:=Zg4 (b.2.2.1 - 1)
  simp only [Zbw,ZbG,Zbf,Bool.not_true,Bool.not_false,Zd0,eq_self]
  refine ⟨fun h1=>?_,fun h1=>⟨fun h2=>?_,fun h2=>⟨fun h3=>?_,fun h3=>⟨fun h4=>?_,fun h4=>⟨⟨0,⟨Nat.zero_le _,fun _=>Zbl⟩,rfl⟩,fun k hk=>⟨fun hlt=>?_,fun hge=>?_⟩⟩⟩⟩⟩⟩
  · exact (Zpj (fun q=>by rw [q.1] at h1; cases h1)).symm
  · exact ZpD
  · exact ZpD
  · exact ZpD
  · exact ZvM
  · obtain rfl:k=List.length b.2.2.2:=by omega
    exact (ZE0 (hk.2 (by omega)) ⟨h1,h2,h3,by omega⟩).symm
def ZDh:ZaI Tryz.prog:=⟨289,[.s Zak],fun x=>True,fun x=>.c (.bool (Zdz x.1)),fun _=>[],fun x hx=>ZDg x.1,Tryz.call289⟩
end Go.Proofs.YtkompmgleojmlaaGreat
