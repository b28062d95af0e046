import Derived.Test.YtkompmgleojmlaaGreatDBlCom
import Derived.Test.YtkompmgleojmlaaGreatDBlDel
import Derived.Test.YtkompmgleojmlaaGreatDBlSort
import Derived.Test.YtkompmgleojmlaaGreatDBxPerf
set_option linter.unusedSimpArgs false
set_option linter.unusedVariables false
set_option maxRecDepth 100000
set_option maxHeartbeats 4000000
namespace Go.Proofs.YtkompmgleojmlaaGreat
open Go.ChangeShapes Go.WideShapes Go.ChangeAt Go.RowKit Go.Joins Go.Deep
open GoRep (rep bulk)
def Zqv (l:List Zaw) (m:Zam):Prop:=(ix 4 (boxW l m.2.1) (List.length l))
def ZwK (l:List Zaw) (m:Zam):Prop:=((pt (true=true))∧(T2 ((Zqv l m)∧(T3 ((pt True)∧(T2 (rB (geI (Zbl (Zaa l (Int.toNat (boxW l m.2.1))).2.2.2 m.2.2.1) 0) (Zhd l m))))))))
theorem Zqw (l:List Zaw) (m:Zam):Zai Tryz.prog 230 [.c (.hs .no Zaf l), .ag (cellsOf Zae m)] (.c (.bool (Zhd l m))) []:=by
  refine bc0 [ZgP,ZsL,ZmN] [] [] [] L0 Tryz.func230 (fun hwf=>?_)
  refine Eq.mpr (β:=(T5 ((pt True)∧(T4 (bif (eqI m.1 1) then (T4 (bif (ltI (List.length l) 4) then (T4 (bif (ltI (boxW l m.2.1) 0) then (T3 ((pt True)∧(T3 (rB (ltI (ZgO l m.2.2.2.2.1) 0) (Zhd l m))))) else (T2 (rB false (Zhd l m))))) else (T4 (rB false (Zhd l m))))) else (T2 (bif (ltI (boxW l m.2.1) 0) then (True∧(rB false (Zhd l m))) else (T4 (bif (eqI m.1 3) then (T3 ((pt True)∧(T2 (rB (ltI (ZgO l m.2.2.2.2.1) 0) (Zhd l m))))) else (T2 (bif (eqI m.1 4) then ((pt (true=true))∧(T4 ((Zqv l m)∧(T4 (bif (eqI m.2.2.1 (Zaa l (Int.toNat (boxW l m.2.1))).2.2.1) then (T2 ((Zqv l m)∧(T6 (rB (ltI (List.length (Zaa l (Int.toNat (boxW l m.2.1))).2.2.2) 6) (Zhd l m))))) else (T2 (rB false (Zhd l m)))))))) else (T2 (bif (eqI m.1 5) then (ZwK l m) else (T2 (bif (eqI m.1 6) then (ZwK l m) else (True∧(rB true (Zhd l m)))))))))))))))))) (by kernel_rfl) ?_
  unfold ZwK Zqv T2 T3 T4 T5 T6
  exact Zu4
def Zqx:Zat Tryz.prog:=⟨230,[.v (.list Zaf), .s Zae],fun x=>True,fun x=>.c (.bool (Zhd x.1 x.2.1)),fun _=>[],fun x hx=>Zqw x.1 x.2.1,Tryz.call230⟩
theorem ZwL (l:List Zaw) (m:Zam):Zai Tryz.prog 167 [.c (.hs .no Zaf l), .ag (cellsOf Zae m)] (.c (.bool (Zet l m))) []:=by
  refine bc0 [Zw3,ZsC,Zqx] [] [] [] L0 Tryz.func167 (fun hwf=>?_)
  refine Eq.mpr (β:=(T3 ((pt True)∧(True∧(bif Zct l then (True∧((pt True)∧(T2 (bif Za2 m then (T2 ((pt True)∧(T2 (rB (Zhd l m) (Zet l m))))) else (T2 (rB false (Zet l m))))))) else (T4 (rB false (Zet l m)))))))) (by kernel_rfl) ?_
  simp only [Zbd,Zbs,ZaY,Bool.not_true,Bool.not_false,Zdy,eq_self]
  repeat' (first | apply And.intro | intro _)
  all_goals first
    | (simp_all [Zet]; done)
def ZwM:Zat Tryz.prog:=⟨167,[.v (.list Zaf), .s Zae],fun x=>True,fun x=>.c (.bool (Zet x.1 x.2.1)),fun _=>[],fun x hx=>ZwL x.1 x.2.1,Tryz.call167⟩
def Zqy (l:List Zaw) (m:Zam):Prop:=(ix 4 (boxW l m.2.1) (List.length l))
def ZwN (l:List Zaw) (m:Zam):Prop:=((pt (true=true))∧(T2 ((Zqy l m)∧(T3 ((pt True)∧(T2 (rB (geI (Zbl (Zaa l (Int.toNat (boxW l m.2.1))).2.2.2 m.2.2.1) 0) (Zet l m))))))))
theorem ZmG (l:List Zaw) (m:Zam):Zai Tryz.prog 217 [.c (.hs .no Zaf l), .ag (cellsOf Zae m)] (.c (.bool (Zet l m))) []:=by
  refine bc0 [Zw7,ZsE,ZgQ,ZsO,ZmP] [] [] [] L0 Tryz.func217 (fun hwf=>?_)
  refine Eq.mpr (β:=(T3 ((pt True)∧(T2 (bif (!(Zct l)) then (T2 (rB false (Zet l m))) else (True∧((pt True)∧(T2 (bif (!(Za2 m)) then (True∧(rB false (Zet l m))) else (T3 ((pt True)∧(T4 ((pt True)∧(T5 (bif (eqI m.1 1) then (T4 (bif (ltI (List.length l) 4) then (T4 (bif (ltI (boxW l m.2.1) 0) then (T4 (rB (!(geI (ZgO l m.2.2.2.2.1) 0)) (Zet l m))) else (T2 (rB false (Zet l m))))) else (T4 (rB false (Zet l m))))) else (T2 (bif (ltI (boxW l m.2.1) 0) then (True∧(rB false (Zet l m))) else (T4 (bif (eqI m.1 3) then (T3 (rB (!(geI (ZgO l m.2.2.2.2.1) 0)) (Zet l m))) else (T2 (bif (eqI m.1 4) then ((pt (true=true))∧(T2 ((Zqy l m)∧(T6 (bif (eqI (Zaa l (Int.toNat (boxW l m.2.1))).2.2.1 m.2.2.1) then (T2 ((Zqy l m)∧(T6 (rB (ltI (List.length (Zaa l (Int.toNat (boxW l m.2.1))).2.2.2) 6) (Zet l m))))) else (T2 (rB false (Zet l m)))))))) else (T2 (bif (eqI m.1 5) then (ZwN l m) else (T2 (bif (eqI m.1 6) then (ZwN l m) else (True∧(rB true (Zet l m)))))))))))))))))))))))))))) (by kernel_rfl) ?_
  unfold ZwN Zqy T2 T3 T4 T5 T6
  exact Zu4
def ZwO:Zat Tryz.prog:=⟨217,[.v (.list Zaf), .s Zae],fun x=>True,fun x=>.c (.bool (Zet x.1 x.2.1)),fun _=>[],fun x hx=>ZmG x.1 x.2.1,Tryz.call217⟩
theorem ZwP (b:Zaw) (hpre:List.length b.2.2.2≤1048576):Zai Tryz.prog 227 [.ag (cellsOf Zaf b)] (.ag [.str b.1, .int .i64 b.2.1, .int .i64 b.2.2.1, .row 0 0]) [.row ZaF b.2.2.2 0 0 none]:=by
  refine bc0 [ZfH] [] [] [] L0 Tryz.func227 (fun hwf=>?_)
  refine Eq.mpr (β:=(T4 ((pt (List.length b.2.2.2≤rowMax))∧(T4 (pt (((cS b.1 b.1)∧(cI b.2.1 b.2.1)∧(cI b.2.2.1 b.2.2.1)∧(b.2.2.2=b.2.2.2)∧True))))))) (by kernel_rfl) ?_
  exact Zvn
def ZwQ:Zat Tryz.prog:=⟨227,[.s Zaf],fun x=>List.length x.1.2.2.2≤1048576,fun x=>.ag [.str x.1.1, .int .i64 x.1.2.1, .int .i64 x.1.2.2.1, .row 0 0],fun x=>[.row ZaF x.1.2.2.2 0 0 none],fun x hx=>ZwP x.1 hx,Tryz.call227⟩
theorem ZAK (b:Zaw) (hpre:List.length b.2.2.2≤1048576):Zai Tryz.prog 216 [.ag (cellsOf Zaf b)] (.ag [.str b.1, .int .i64 b.2.1, .int .i64 b.2.2.1, .row 0 0]) [.row ZaF b.2.2.2 0 0 none]:=by
  refine bc0 [] [] [] [] L0 Tryz.func216 (fun hwf=>?_)
  refine Eq.mpr (β:=(T5 ((True∧List.length ([]:List Zc7) + List.length b.2.2.2≤rowMax)∧(T4 (pt (((cS b.1 b.1)∧(cI b.2.1 b.2.1)∧(cI b.2.2.1 b.2.2.1)∧((([]:List Zc7) ++ b.2.2.2)=b.2.2.2)∧True))))))) (by kernel_rfl) ?_
  exact Zvn
def ZAL:Zat Tryz.prog:=⟨216,[.s Zaf],fun x=>List.length x.1.2.2.2≤1048576,fun x=>.ag [.str x.1.1, .int .i64 x.1.2.1, .int .i64 x.1.2.2.1, .row 0 0],fun x=>[.row ZaF x.1.2.2.2 0 0 none],fun x hx=>ZAK x.1 hx,Tryz.call216⟩
def Zqz (l:List Zaw):Nat→List AV→Mem→Za3
  | 3,tm,M=>⟨Nat,fun y=>(Zb2 (Zcx tm [(3, .c (.row 0 0)),(5, .any),(6, .any),(9, .c (.int .i64 ((y:Nat):Int)))]) 10 9,ZrZ M [(0, .row Zaf (List.take y l) 0 0 none)]),fun y=>(y≤List.length l),fun y=>(List.length l - y)⟩
  | _,_,_=>⟨Unit,fun _=>([],[]),fun _=>False,fun _=>0⟩
theorem ZqA (l:List Zaw) (hpre:ZbA l):Zai Tryz.prog 166 [.c (.hs .no Zaf l)] (.c (.row 0 0)) [.row Zaf l 0 0 none]:=by
  refine bc0 [ZwQ] [] [] [] (Zqz l) Tryz.func166 (fun hwf=>?_)
  refine Eq.mpr (β:=(T6 ((∃ q:Nat,(q≤List.length l)∧((lxs [hn Zaf l, .tp [], .c (.raw (.slice none 0 0)), .c (.row 0 0), .tp []] (True∧True∧lxs [hn Zaf l,ci (List.length l)] (vI 0 q∧TN 9 (lxs [.tp []] True))))∧pt (leB (.row Zaf ([]:List Zaw) 0 0 none) (.row Zaf (List.take q l) 0 0 none)∧True)))∧∀ y0:Nat,(y0≤List.length l)→(True∧(bif (ltI y0 (List.length l)) then ((ix 4 y0 (List.length l))∧(T5 ((pt (List.length (Zaa l y0).2.2.2≤1048576))∧(True∧((True∧List.length (List.take y0 l) + List.length ([(Zaa l y0)])≤rowMax)∧(T3 (∃ y0' : Nat,(y0'≤List.length l)∧(List.length l - y0') < (List.length l - y0)∧((lxs [hn Zaf l, .tp [], .c (.raw (.slice none 0 0)), .c (.row 0 0), .tp []] (True∧True∧lxs [hn Zaf l,ci (List.length l)] (vI (w64 ((y0:Int) + 1)) y0'∧TN 9 (lxs [.tp []] True))))∧pt (leB (.row Zaf (List.take y0 l ++ [(Zaa l y0)]) 0 0 none) (.row Zaf (List.take y0' l) 0 0 none)∧True))))))))) else (T2 (pt ((List.take y0 l)=l)))))))) (by kernel_rfl) ?_
  unfold T2 T3 T5 T6
  exact Zu0
def ZqB:Zat Tryz.prog:=⟨166,[.v (.list Zaf)],fun x=>ZbA x.1,fun x=>.c (.row 0 0),fun x=>[.row Zaf x.1 0 0 none],fun x hx=>ZqA x.1 hx,Tryz.call166⟩
def Zsy (l:List Zaw):Nat→List AV→Mem→Za3
  | 3,tm,M=>⟨Nat,fun y=>(Zb2 (Zcx tm [(3, .c (.row 0 0)),(4, .c (.int .i64 ((y:Nat):Int)))]) 5 15,ZrZ M [(0, .row Zaf (List.take y l) 0 0 none)]),fun y=>(y≤List.length l),fun y=>(List.length l - y)⟩
  | _,_,_=>⟨Unit,fun _=>([],[]),fun _=>False,fun _=>0⟩
theorem Zlx (l:List Zaw) (hpre:ZbA l):Zai Tryz.prog 147 [.c (.hs .no Zaf l)] (.c (.row 0 0)) [.row Zaf l 0 0 none]:=by
  refine bc0 [ZAL] [] [] [] (Zsy l) Tryz.func147 (fun hwf=>?_)
  refine Eq.mpr (β:=(T4 ((∃ q:Nat,(q≤List.length l)∧((lxs [hn Zaf l, .tp [], .c (.raw (.slice none 0 0)), .c (.row 0 0)] (vI 0 q∧TN 15 (lxs [.tp []] True)))∧pt (leB (.row Zaf ([]:List Zaw) 0 0 none) (.row Zaf (List.take q l) 0 0 none)∧True)))∧∀ y0:Nat,(y0≤List.length l)→(T4 (bif (ltI y0 (List.length l)) then (T3 ((ix 4 y0 (List.length l))∧(True∧((pt (List.length (Zaa l y0).2.2.2≤1048576))∧(True∧((True∧List.length (List.take y0 l) + List.length ([(Zaa l y0)])≤rowMax)∧(T4 (∃ y0' : Nat,(y0'≤List.length l)∧(List.length l - y0') < (List.length l - y0)∧((lxs [hn Zaf l, .tp [], .c (.raw (.slice none 0 0)), .c (.row 0 0)] (vI (w64 ((y0:Int) + 1)) y0'∧TN 15 (lxs [.tp []] True)))∧pt (leB (.row Zaf (List.take y0 l ++ [(Zaa l y0)]) 0 0 none) (.row Zaf (List.take y0' l) 0 0 none)∧True)))))))))) else (T2 (pt ((List.take y0 l)=l)))))))) (by kernel_rfl) ?_
  unfold T2 T3 T4
  exact Zu0
def Zly:Zat Tryz.prog:=⟨147,[.v (.list Zaf)],fun x=>ZbA x.1,fun x=>.c (.row 0 0),fun x=>[.row Zaf x.1 0 0 none],fun x hx=>Zlx x.1 hx,Tryz.call147⟩
def ZgK (l:List Zaw) (m:Zam):Prop:=(ix 4 (boxW l m.2.1) (List.length l))
def ZqC (r0:List Zaw) (l:List Zaw) (m:Zam):Prop:=(True∧((pt (ZHp r0∧((r0=r0)∧((True))∧True)))∧∀ r1:List Zaw,r1=ZgG r0→(T2 (pt (((([]:List Zaw)=[])∧True)∧(r1=(ZdM l m)))))))
def ZwR (l:List Zaw) (m:Zam):Prop:=(ix 4 (boxW l m.2.1) (List.length (List.set l (Int.toNat (boxW l m.2.1)) ((Zaa l (Int.toNat (boxW l m.2.1))).1,((Zaa l (Int.toNat (boxW l m.2.1))).2.1,((Zaa l (Int.toNat (boxW l m.2.1))).2.2.1,((Zaa l (Int.toNat (boxW l m.2.1))).2.2.2 ++ [(m.2.2.1,(m.2.2.2.1,m.2.2.2.2.2))])))))))
theorem ZwS (l:List Zaw) (m:Zam) (hpre:Zet l m=true):Zkz Tryz.prog 168 (Zfo 0 [(.g false (.list Zaf)),(.a (.s Zae))] (l,m,())) (ZjV 0 [(.g false (.list Zaf)),(.a (.s Zae))] (l,m,())) (ZjQ 0 [(.g false (.list Zaf)),(.a (.s Zae))] (l,m,()) ++ [.row Zaf (ZdM l m) 0 0 none]) (inpM 0 [(.g false (.list Zaf)),(.a (.s Zae))]) (.c (.row 1 0)):=by
  refine ZD3 (T:=⟨[ZgP,ZmN],[],[],[ZhM,Zjp,Zjr],none,fun _=>[],1,[],[]⟩) (L:=L0) Tryz.func168 rfl rfl rfl (by kernel_rfl) (fun hwf hwm=>?_)
  refine Eq.mpr (β:=(T5 ((True∧pt (true=true))∧(T5 (bif (eqI m.1 1) then (T7 ((True∧List.length l + List.length ([(m.2.2.2.2.1,(m.2.1,(1,([]:List Zc7))))])≤rowMax)∧(T2 ((pt (ZHp (l ++ [(m.2.2.2.2.1,(m.2.1,(1,([]:List Zc7))))])∧(((l ++ [(m.2.2.2.2.1,(m.2.1,(1,([]:List Zc7))))])=(l ++ [(m.2.2.2.2.1,(m.2.1,(1,([]:List Zc7))))]))∧((True))∧True)))∧∀ r0:List Zaw,r0=ZgG (l ++ [(m.2.2.2.2.1,(m.2.1,(1,([]:List Zc7))))])→(T2 (pt (((([]:List Zaw)=[])∧True)∧(r0=(ZdM l m))))))))) else (T2 (bif (eqI m.1 2) then (T4 ((pt (ZIi l (boxW l m.2.1) (w64 (boxW l m.2.1 + 1))∧((l=l)∧True)))∧∀ r0:List Zaw,r0=([]:List Zaw)→(T2 ((pt (ZHp (Zlu l (Int.toNat (boxW l m.2.1)))∧(((Zlu l (Int.toNat (boxW l m.2.1)))=(Zlu l (Int.toNat (boxW l m.2.1))))∧((True))∧True)))∧∀ r1:List Zaw,r1=ZgG (Zlu l (Int.toNat (boxW l m.2.1)))→(T2 (pt (((([]:List Zaw)=[])∧True)∧(r1=(ZdM l m))))))))) else (T2 (bif (eqI m.1 3) then (T4 ((ZgK l m)∧(T2 (∀ r0:List Zaw,r0=(List.set l (Int.toNat (boxW l m.2.1)) (m.2.2.2.2.1,(Zaa l (Int.toNat (boxW l m.2.1))).2))→(ZqC r0 l m))))) else (T2 (bif (eqI m.1 4) then ((pt (true=true))∧(T4 ((ZgK l m)∧(T10 ((True∧List.length (Zaa l (Int.toNat (boxW l m.2.1))).2.2.2 + List.length ([(m.2.2.1,(m.2.2.2.1,m.2.2.2.2.2))])≤rowMax)∧((ZgK l m)∧(True∧(((Int.toNat (boxW l m.2.1)):Nat)=(Int.toNat (boxW l m.2.1))∧(T2 ((ZwR l m)∧(T3 ((ZwR l m)∧(T2 (∀ r0:List Zaw,r0=(List.set (List.set l (Int.toNat (boxW l m.2.1)) ((Zaa l (Int.toNat (boxW l m.2.1))).1,((Zaa l (Int.toNat (boxW l m.2.1))).2.1,((Zaa l (Int.toNat (boxW l m.2.1))).2.2.1,((Zaa l (Int.toNat (boxW l m.2.1))).2.2.2 ++ [(m.2.2.1,(m.2.2.2.1,m.2.2.2.2.2))]))))) (Int.toNat (boxW l m.2.1)) ((Zaa (List.set l (Int.toNat (boxW l m.2.1)) ((Zaa l (Int.toNat (boxW l m.2.1))).1,((Zaa l (Int.toNat (boxW l m.2.1))).2.1,((Zaa l (Int.toNat (boxW l m.2.1))).2.2.1,((Zaa l (Int.toNat (boxW l m.2.1))).2.2.2 ++ [(m.2.2.1,(m.2.2.2.1,m.2.2.2.2.2))]))))) (Int.toNat (boxW l m.2.1))).1,((Zaa (List.set l (Int.toNat (boxW l m.2.1)) ((Zaa l (Int.toNat (boxW l m.2.1))).1,((Zaa l (Int.toNat (boxW l m.2.1))).2.1,((Zaa l (Int.toNat (boxW l m.2.1))).2.2.1,((Zaa l (Int.toNat (boxW l m.2.1))).2.2.2 ++ [(m.2.2.1,(m.2.2.2.1,m.2.2.2.2.2))]))))) (Int.toNat (boxW l m.2.1))).2.1,((w64 ((Zaa (List.set l (Int.toNat (boxW l m.2.1)) ((Zaa l (Int.toNat (boxW l m.2.1))).1,((Zaa l (Int.toNat (boxW l m.2.1))).2.1,((Zaa l (Int.toNat (boxW l m.2.1))).2.2.1,((Zaa l (Int.toNat (boxW l m.2.1))).2.2.2 ++ [(m.2.2.1,(m.2.2.2.1,m.2.2.2.2.2))]))))) (Int.toNat (boxW l m.2.1))).2.2.1 + 1)),(Zaa (List.set l (Int.toNat (boxW l m.2.1)) ((Zaa l (Int.toNat (boxW l m.2.1))).1,((Zaa l (Int.toNat (boxW l m.2.1))).2.1,((Zaa l (Int.toNat (boxW l m.2.1))).2.2.1,((Zaa l (Int.toNat (boxW l m.2.1))).2.2.2 ++ [(m.2.2.1,(m.2.2.2.1,m.2.2.2.2.2))]))))) (Int.toNat (boxW l m.2.1))).2.2.2))))→(ZqC r0 l m))))))))))))))) else (T2 (bif (eqI m.1 5) then ((pt (true=true))∧(T2 ((ZgK l m)∧(T4 ((ZgK l m)∧(T5 ((True∧pt (true=true))∧((ix 3 (Zbl (Zaa l (Int.toNat (boxW l m.2.1))).2.2.2 m.2.2.1) (List.length (Zaa l (Int.toNat (boxW l m.2.1))).2.2.2))∧(T2 (∀ r0:List Zaw,r0=(List.set l (Int.toNat (boxW l m.2.1)) ((Zaa l (Int.toNat (boxW l m.2.1))).1,((Zaa l (Int.toNat (boxW l m.2.1))).2.1,((Zaa l (Int.toNat (boxW l m.2.1))).2.2.1,(List.set (Zaa l (Int.toNat (boxW l m.2.1))).2.2.2 (Int.toNat (Zbl (Zaa l (Int.toNat (boxW l m.2.1))).2.2.2 m.2.2.1)) ((Zay (Zaa l (Int.toNat (boxW l m.2.1))).2.2.2 (Int.toNat (Zbl (Zaa l (Int.toNat (boxW l m.2.1))).2.2.2 m.2.2.1))).1,(m.2.2.2.1,(Zay (Zaa l (Int.toNat (boxW l m.2.1))).2.2.2 (Int.toNat (Zbl (Zaa l (Int.toNat (boxW l m.2.1))).2.2.2 m.2.2.1))).2.2)))))))→(ZqC r0 l m))))))))))) else (T2 (bif (eqI m.1 6) then ((pt (true=true))∧(T2 ((ZgK l m)∧(T3 ((True∧pt (true=true))∧(T5 ((ZgK l m)∧(T5 ((pt (ZIj (Zaa l (Int.toNat (boxW l m.2.1))).2.2.2 (Zbl (Zaa l (Int.toNat (boxW l m.2.1))).2.2.2 m.2.2.1) (w64 (Zbl (Zaa l (Int.toNat (boxW l m.2.1))).2.2.2 m.2.2.1 + 1))∧(((Zaa l (Int.toNat (boxW l m.2.1))).2.2.2=(Zaa l (Int.toNat (boxW l m.2.1))).2.2.2)∧True)))∧((ZgK l m)∧(True∧(((Int.toNat (boxW l m.2.1)):Nat)=(Int.toNat (boxW l m.2.1))∧(True∧((pt (ZHp (List.set l (Int.toNat (boxW l m.2.1)) ((Zaa l (Int.toNat (boxW l m.2.1))).1,((Zaa l (Int.toNat (boxW l m.2.1))).2.1,((Zaa l (Int.toNat (boxW l m.2.1))).2.2.1,ZE1 (Zaa l (Int.toNat (boxW l m.2.1))).2.2.2 (Int.toNat (Zbl (Zaa l (Int.toNat (boxW l m.2.1))).2.2.2 m.2.2.1))))))∧(((List.set l (Int.toNat (boxW l m.2.1)) ((Zaa l (Int.toNat (boxW l m.2.1))).1,((Zaa l (Int.toNat (boxW l m.2.1))).2.1,((Zaa l (Int.toNat (boxW l m.2.1))).2.2.1,ZE1 (Zaa l (Int.toNat (boxW l m.2.1))).2.2.2 (Int.toNat (Zbl (Zaa l (Int.toNat (boxW l m.2.1))).2.2.2 m.2.2.1))))))=(List.set l (Int.toNat (boxW l m.2.1)) ((Zaa l (Int.toNat (boxW l m.2.1))).1,((Zaa l (Int.toNat (boxW l m.2.1))).2.1,((Zaa l (Int.toNat (boxW l m.2.1))).2.2.1,ZE1 (Zaa l (Int.toNat (boxW l m.2.1))).2.2.2 (Int.toNat (Zbl (Zaa l (Int.toNat (boxW l m.2.1))).2.2.2 m.2.2.1)))))))∧((True))∧True)))∧∀ r0:List Zaw,r0=ZgG (List.set l (Int.toNat (boxW l m.2.1)) ((Zaa l (Int.toNat (boxW l m.2.1))).1,((Zaa l (Int.toNat (boxW l m.2.1))).2.1,((Zaa l (Int.toNat (boxW l m.2.1))).2.2.1,ZE1 (Zaa l (Int.toNat (boxW l m.2.1))).2.2.2 (Int.toNat (Zbl (Zaa l (Int.toNat (boxW l m.2.1))).2.2.2 m.2.2.1))))))→(T2 (pt (((([]:List Zaw)=[])∧True)∧(r0=(ZdM l m))))))))))))))))))) else (True∧((pt (ZHp l∧((l=l)∧((True))∧True)))∧∀ r0:List Zaw,r0=ZgG l→(T2 (pt (((([]:List Zaw)=[])∧True)∧(r0=(ZdM l m)))))))))))))))))))))) (by kernel_rfl) ?_
  unfold ZwR ZqC ZgK T10 T2 T3 T4 T5 T7
  obtain ⟨hs,hl4,hbx,hcm,hft⟩:=ZgH hpre
  have hw:=ZoD l m.2.1
  have hm:=ZAJ l m.2.2.2.2.1
  have hp:=ZuE (bxB l m).2.2.2 m.2.2.1
  have hc:=ZhE.1 hcm
  have hne:m.1 ≠ 1→0≤boxW l m.2.1:=fun h=>by
    exact ZvA
  have hk:m.1 ≠ 1→Int.toNat (boxW l m.2.1) < l.length:=fun h=>by have:=hne h; omega
  have hb6:m.1 ≠ 1→(bxB l m).2.2.2.length≤6∧(1≤(bxB l m).2.2.1∧(bxB l m).2.2.1≤999999999):=fun h=>by
    exact Zwv
  have hpm:m.1=5∨m.1=6→0≤Zbl (bxB l m).2.2.2 m.2.2.1:=fun h=>by
    exact Zvq
  have hwr:IntKind.wrap .i64 (boxW l m.2.1 + 1)=boxW l m.2.1 + 1:=Zgf (by omega) (by omega)
  have hwp:m.1 ≠ 1→IntKind.wrap .i64 (Zbl (bxB l m).2.2.2 m.2.2.1 + 1)=Zbl (bxB l m).2.2.2 m.2.2.1 + 1:=fun h=>by have:=hb6 h; exact Zgf (by omega) (by omega)
  have set_ok:∀ (v x:Int) (ms:List Zc7),ZHp (l.set (bxK l m) ((bxB l m).1,v,x,ms))∧ZgG (l.set (bxK l m) ((bxB l m).1,v,x,ms))=l.set (bxK l m) ((bxB l m).1,v,x,ms):=fun v x ms=>by
    have h1:srt (l.set (bxK l m) ((bxB l m).1,v,x,ms)):=ZHR hs rfl
    refine ⟨⟨by rw [List.length_set]; omega,ZmD h1 (List.Perm.refl _)⟩,ZAI h1⟩
  simp only [Zbd,Zbs,ZaY,Bool.not_true,Bool.not_false,Zdy,eq_self]
  refine ⟨fun h1=>?_,fun h1=>⟨fun h2=>?_,fun h2=>⟨fun h3=>?_,fun h3=>⟨fun h4=>?_,fun h4=>⟨fun h5=>?_,fun h5=>⟨fun h6=>?_,fun h6=>?_⟩⟩⟩⟩⟩⟩
  · have hf:=Zik.1 hft
    have hn:=ZGw (b:=(m.2.2.2.2.1,m.2.1,1,[])) hs (ZuD (n:=m.2.2.2.2.1) (by omega))
    refine ⟨by unfold rowMax; simp; omega,⟨by simp; omega,hn.1⟩,fun r hr=>?_⟩
    rw [hr,hn.2]
    unfold ZdM
    rw [if_pos h1]
  · refine ⟨⟨hne h1,by omega,hwr⟩,fun r0 _=>⟨⟨?_,ZmD (Zzq hs _) (List.Perm.refl _)⟩,fun r1 hr=>?_⟩⟩
    · have:=(ZkM l (Int.toNat (boxW l m.2.1))).length_le
      omega
    · rw [hr,ZAI (Zzq hs _)]
      unfold ZdM
      rw [if_neg h1,if_pos h2]
  · have hf:=Zik.1 hft
    have hn:=ZGv (b:=(m.2.2.2.2.1,(bxB l m).2)) hs (hk h1) (ZuD (n:=m.2.2.2.2.1) (by omega))
    refine ⟨⟨hne h1,hw.2⟩,fun r0 hr0=>?_⟩
    subst hr0
    refine ⟨⟨by rw [List.length_set]; omega,hn.1⟩,fun r1 hr=>?_⟩
    rw [hr,hn.2]
    unfold ZdM
    rw [if_neg h1,if_neg h2,if_pos h3]
  · have e:∀ X:Zaw,Zaa (l.set (Int.toNat (boxW l m.2.1)) X) (Int.toNat (boxW l m.2.1))=X:=fun X=>Zeo (t:=Zaf) (hk h1)
    have h6:List.length (Zaa l (Int.toNat (boxW l m.2.1))).2.2.2≤6∧1≤(Zaa l (Int.toNat (boxW l m.2.1))).2.2.1∧(Zaa l (Int.toNat (boxW l m.2.1))).2.2.1≤999999999:=hb6 h1
    simp only [e,List.set_set,List.length_set]
    rw [Zgf (by omega) (by omega)]
    refine ⟨⟨hne h1,hw.2⟩,by unfold rowMax; simp; omega,⟨hne h1,hw.2⟩,⟨hne h1,hw.2⟩,⟨hne h1,hw.2⟩,fun r0 hr0=>?_⟩
    subst hr0
    refine ⟨(set_ok _ _ _).1,fun r1 hr=>?_⟩
    rw [hr,(set_ok _ _ _).2]
    unfold ZdM
    rw [if_neg h1,if_neg h2,if_neg h3,if_pos h4]
  · refine ⟨⟨hne h1,hw.2⟩,⟨hne h1,hw.2⟩,⟨hpm (.inl h5),hp.2⟩,fun r0 hr0=>?_⟩
    subst hr0
    refine ⟨(set_ok _ _ _).1,fun r1 hr=>?_⟩
    rw [hr,(set_ok _ _ _).2]
    exact Zwt
  · refine ⟨⟨hne h1,hw.2⟩,⟨hne h1,hw.2⟩,⟨hpm (.inr h6),hp.2,hwp h1⟩,⟨hne h1,hw.2⟩,(set_ok _ _ _).1,fun r1 hr=>?_⟩
    rw [hr,(set_ok _ _ _).2]
    unfold ZdM
    rw [if_neg h1,if_neg h2,if_neg h3,if_neg h4,if_neg h5]
  · exfalso
    rcases hc.2 with h | h | h | h | h <;> omega
def ZwT:Zen Tryz.prog:=⟨168,[(.g false (.list Zaf)),(.a (.s Zae))],fun x=>Zet x.1 x.2.1=true,fun x=>(x.1,x.2.1,()),fun x=>.c (.row 1 0),fun x=>[.row Zaf (ZdM x.1 x.2.1) 0 0 none],fun x hx=>ZwS x.1 x.2.1 hx,Tryz.call168⟩
end Go.Proofs.YtkompmgleojmlaaGreat
