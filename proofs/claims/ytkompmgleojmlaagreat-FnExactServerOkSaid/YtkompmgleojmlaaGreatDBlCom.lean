import Derived.Test.YtkompmgleojmlaaGreatDBlBox
set_option linter.unusedSimpArgs false
set_option linter.unusedVariables false
set_option maxRecDepth 100000
set_option maxHeartbeats 4000000
namespace Go.Proofs.YtkompmgleojmlaaGreat
open Go.ChangeShapes Go.WideShapes Go.ChangeAt Go.RowKit Go.Joins Go.Deep
open GoRep (rep bulk)
theorem blE (a b:ByteArray):(Op.bytesLess a.toList b.toList || eqS a b)=!Zgg b a:=by
  rw [← Zsi]
  congr 1
theorem blN (a b:ByteArray):Op.bytesLess a.toList b.toList=Zgg a b:=rfl
def Zw0 (l:List Zaw):Nat→List AV→Mem→Za3
  | 2,tm,M=>⟨Nat,fun y=>(Zb2 (Zb2 (Zcx tm [(7, .c (.int .i64 ((y:Nat):Int)))]) 2 3) 8 31,M),fun y=>(y≤List.length l∧∀ j,j < y→¬ Zij l j),fun y=>(List.length l - y)⟩
  | _,_,_=>⟨Unit,fun _=>([],[]),fun _=>False,fun _=>0⟩
def Zw1 (l:List Zaw) (y0:Nat):Prop:=(T4 ((pt True)∧(T2 (bif (neI (boxW l (Zaa l y0).2.1) y0) then (True∧(rB false (Zct l))) else (T2 (∃ y0' : Nat,(y0'≤List.length l∧∀ j,j < y0'→¬ Zij l j)∧(List.length l - y0') < (List.length l - y0)∧((lxs [hn Zaf l, .tp []] (TN 3 (lxs [hn Zaf l,ci (List.length l)] (vI (w64 ((y0:Int) + 1)) y0'∧TN 31 (tpn 3 True)))))∧pt (True))))))))
theorem Zw2 (l:List Zaw):Zai Tryz.prog 228 [.c (.hs .no Zaf l)] (.c (.bool (Zct l))) []:=by
  refine bc0 [ZCH,ZgP] [] [] [] (Zw0 l) Tryz.func228 (fun hwf=>?_)
  refine Eq.mpr (β:=(T4 ((∃ q:Nat,(q≤List.length l∧∀ j,j < q→¬ Zij l j)∧((lxs [hn Zaf l, .tp []] (TN 3 (lxs [hn Zaf l,ci (List.length l)] (vI 0 q∧TN 31 (tpn 3 True)))))∧pt (True)))∧∀ y0:Nat,(y0≤List.length l∧∀ j,j < y0→¬ Zij l j)→(True∧(bif (ltI y0 (List.length l)) then (True∧((ix 4 y0 (List.length l))∧(T4 ((pt (true=true))∧(True∧((pt True)∧(T2 (bif (!(Zdf (Zaa l y0))) then (T4 (rB false (Zct l))) else (T3 (bif (gtI y0 0) then (T5 ((ix 4 (w64 ((y0:Int) - 1)) (List.length l))∧(T6 (bif (Op.bytesLess (Zaa l y0).1.toList (Zaa l (Int.toNat (w64 ((y0:Int) - 1)))).1.toList || eqS (Zaa l y0).1 (Zaa l (Int.toNat (w64 ((y0:Int) - 1)))).1) then (T2 (rB false (Zct l))) else (Zw1 l y0))))) else (T3 (Zw1 l y0)))))))))))) else (T4 (rB (leI (List.length l) 4) (Zct l)))))))) (by kernel_rfl) ?_
  unfold Zw1 T2 T3 T4 T5 T6
  exact ZuR
def Zw3:Zat Tryz.prog:=⟨228,[.v (.list Zaf)],fun x=>True,fun x=>.c (.bool (Zct x.1)),fun _=>[],fun x hx=>Zw2 x.1,Tryz.call228⟩
def Zw4 (l:List Zaw):Nat→List AV→Mem→Za3
  | 2,tm,M=>⟨Nat,fun y=>(Zb2 (Zcx tm [(2, .any),(3, .c (.int .i64 ((y:Nat):Int)))]) 4 42,M),fun y=>(y≤List.length l∧∀ j,j < y→¬ Zij l j),fun y=>(List.length l - y)⟩
  | _,_,_=>⟨Unit,fun _=>([],[]),fun _=>False,fun _=>0⟩
def ZqF (y0:Nat) (l:List Zaw):Prop:=(ix 4 y0 (List.length l))
def Zw5 (y0:Nat) (l:List Zaw):Prop:=(T2 (((4:Nat)=4∧((0:Int)≤0∧(0:Int)≤(y0:Int)∧((y0:Int):Int)≤(List.length l:Int)))∧(T2 ((ZqF y0 l)∧(T2 ((pt True)∧(T2 (bif (geI (boxW (List.drop (Int.toNat 0) (List.take y0 l)) (Zaa l y0).2.1) 0) then (True∧(rB false (Zct l))) else (T3 (∃ y0' : Nat,(y0'≤List.length l∧∀ j,j < y0'→¬ Zij l j)∧(List.length l - y0') < (List.length l - y0)∧((lxs [hn Zaf l, .tp []] (True∧vI (w64 ((y0:Int) + 1)) y0'∧TN 42 (tpn 3 True)))∧pt (True))))))))))))
theorem Zw6 (l:List Zaw):Zai Tryz.prog 261 [.c (.hs .no Zaf l)] (.c (.bool (Zct l))) []:=by
  refine bc0 [ZCK,ZgQ] [] [] [] (Zw4 l) Tryz.func261 (fun hwf=>?_)
  refine Eq.mpr (β:=(T2 ((∃ q:Nat,(q≤List.length l∧∀ j,j < q→¬ Zij l j)∧((lxs [hn Zaf l, .tp []] (True∧vI 0 q∧TN 42 (tpn 3 True)))∧pt (True)))∧∀ y0:Nat,(y0≤List.length l∧∀ j,j < y0→¬ Zij l j)→(T4 (bif (ltI y0 (List.length l)) then ((pt (true=true))∧(T2 ((ZqF y0 l)∧(True∧((pt True)∧(T2 (bif (!(Zdf (Zaa l y0))) then (T4 (rB false (Zct l))) else (T3 (bif (gtI y0 0) then (T3 ((ix 4 (w64 ((y0:Int) - 1)) (List.length l))∧(T4 ((ZqF y0 l)∧(T6 (bif (!Op.bytesLess (Zaa l (Int.toNat (w64 ((y0:Int) - 1)))).1.toList (Zaa l y0).1.toList) then (T2 (rB false (Zct l))) else (Zw5 y0 l))))))) else (T3 (Zw5 y0 l))))))))))) else (T4 (rB (leI (List.length l) 4) (Zct l)))))))) (by kernel_rfl) ?_
  unfold Zw5 ZqF T2 T3 T4 T6
  exact ZuR
def Zw7:Zat Tryz.prog:=⟨261,[.v (.list Zaf)],fun x=>True,fun x=>.c (.bool (Zct x.1)),fun _=>[],fun x hx=>Zw6 x.1,Tryz.call261⟩
theorem ZhE {m:Zam}:Za2 m=true↔((1≤m.2.1∧m.2.1≤999999999) ∧
  (((m.1=1∨m.1=3)∧Zbo m.2.2.2.2.1=true∧m.2.2.1=0∧m.2.2.2.1=0∧m.2.2.2.2.2=(⟨#[]⟩:ByteArray)) ∨
   (m.1=2∧m.2.2.1=0∧m.2.2.2.1=0∧m.2.2.2.2.1=(⟨#[]⟩:ByteArray)∧m.2.2.2.2.2=(⟨#[]⟩:ByteArray)) ∨
   (m.1=4∧(1≤m.2.2.1∧m.2.2.1≤999999998)∧(0≤m.2.2.2.1∧m.2.2.2.1≤31)∧m.2.2.2.2.2.size≤40∧m.2.2.2.2.1=(⟨#[]⟩:ByteArray)) ∨
   (m.1=5∧(1≤m.2.2.1∧m.2.2.1≤999999998)∧(0≤m.2.2.2.1∧m.2.2.2.1≤31)∧m.2.2.2.2.1=(⟨#[]⟩:ByteArray)∧m.2.2.2.2.2=(⟨#[]⟩:ByteArray)) ∨
   (m.1=6∧(1≤m.2.2.1∧m.2.2.1≤999999998)∧m.2.2.2.1=0∧m.2.2.2.2.1=(⟨#[]⟩:ByteArray)∧m.2.2.2.2.2=(⟨#[]⟩:ByteArray)))):=by
  unfold Za2
  rw [decide_eq_true_eq]
theorem ZiZ {a b:Zam}:ZbQ a b=true↔(a.1=b.1∧a.2.1=b.2.1∧a.2.2.1=b.2.2.1∧a.2.2.2.1=b.2.2.2.1∧a.2.2.2.2.1=b.2.2.2.2.1∧a.2.2.2.2.2=b.2.2.2.2.2):=by
  rw [Zfl]
  obtain ⟨a1,a2,a3,a4,a5,a6⟩:=a
  obtain ⟨b1,b2,b3,b4,b5,b6⟩:=b
  simp only [Prod.mk.injEq]
theorem ZqG {a b:Zam}:ZbQ a b=false↔¬ (a.1=b.1∧a.2.1=b.2.1∧a.2.2.1=b.2.2.1∧a.2.2.2.1=b.2.2.2.1∧a.2.2.2.2.1=b.2.2.2.2.1∧a.2.2.2.2.2=b.2.2.2.2.2):=by
  rw [← Bool.not_eq_true,ZiZ]
theorem ZzL:ByteArray.size (⟨#[]⟩:ByteArray)=0:=rfl
def ZgN (m:Zam):Prop:=(T4 (rB false (Za2 m)))
def Zw8 (m:Zam):Prop:=(T2 ((pt True)∧(T5 (bif Zbo m.2.2.2.2.1 then (T2 ((pt True)∧(T2 (bif btw m.2.1 1 999999999 then (T2 (true=true∧(T2 (rB (ZbQ (0,(0,(m.2.2.1,(m.2.2.2.1,((⟨#[]⟩:ByteArray),m.2.2.2.2.2))))) (0,(0,(0,(0,((⟨#[]⟩:ByteArray),(⟨#[]⟩:ByteArray))))))) (Za2 m))))) else (T2 (rB false (Za2 m))))))) else (ZgN m)))))
theorem ZsB (m:Zam):Zai Tryz.prog 229 [.ag (cellsOf Zae m)] (.c (.bool (Za2 m))) []:=by
  refine bc0 [Zit,ZqD,Zb0,Zji] [] [] [] L0 Tryz.func229 (fun hwf=>?_)
  refine Eq.mpr (β:=(T12 (T2 (bif (eqI m.1 1) then (Zw8 m) else (T2 (bif (eqI m.1 3) then (Zw8 m) else (T2 (bif (eqI m.1 2) then (T5 ((pt True)∧(T2 (bif btw m.2.1 1 999999999 then (T2 (true=true∧(T2 (rB (ZbQ (0,(0,m.2.2)) (0,(0,(0,(0,((⟨#[]⟩:ByteArray),(⟨#[]⟩:ByteArray))))))) (Za2 m))))) else (T2 (rB false (Za2 m))))))) else (T2 (bif (eqI m.1 4) then (T2 ((pt True)∧(True∧(bif btw m.2.2.1 1 999999998 then (T2 ((pt True)∧(T2 (bif ZaY m.2.2.2.1 then (T12 (T2 (bif (leI (ByteArray.size m.2.2.2.2.2) 40) then (T2 ((pt True)∧(T2 (bif btw m.2.1 1 999999999 then (T2 (true=true∧(T2 (rB (ZbQ (0,(0,(0,(0,(m.2.2.2.2.1,(⟨#[]⟩:ByteArray)))))) (0,(0,(0,(0,((⟨#[]⟩:ByteArray),(⟨#[]⟩:ByteArray))))))) (Za2 m))))) else (T2 (rB false (Za2 m))))))) else (ZgN m)))) else (T10 (ZgN m)))))) else (T12 (ZgN m)))))) else (T2 (bif (eqI m.1 5) then (T2 ((pt True)∧(True∧(bif btw m.2.2.1 1 999999998 then (T2 ((pt True)∧(T8 (bif ZaY m.2.2.2.1 then (T2 ((pt True)∧(T2 (bif btw m.2.1 1 999999999 then (T2 (true=true∧(T2 (rB (ZbQ (0,(0,(0,(0,m.2.2.2.2)))) (0,(0,(0,(0,((⟨#[]⟩:ByteArray),(⟨#[]⟩:ByteArray))))))) (Za2 m))))) else (T2 (rB false (Za2 m))))))) else (ZgN m))))) else (T8 (ZgN m)))))) else (T2 (bif (eqI m.1 6) then (T2 ((pt True)∧(T5 (bif btw m.2.2.1 1 999999998 then (T2 ((pt True)∧(T2 (bif btw m.2.1 1 999999999 then (T2 (true=true∧(T2 (rB (ZbQ (0,(0,(0,m.2.2.2))) (0,(0,(0,(0,((⟨#[]⟩:ByteArray),(⟨#[]⟩:ByteArray))))))) (Za2 m))))) else (T2 (rB false (Za2 m))))))) else (ZgN m))))) else (T2 (ZgN m)))))))))))))))) (by kernel_rfl) ?_
  unfold Zw8 ZgN T10 T12 T2 T4 T5 T8
  exact Zu9
def ZsC:Zat Tryz.prog:=⟨229,[.s Zae],fun x=>True,fun x=>.c (.bool (Za2 x.1)),fun _=>[],fun x hx=>ZsB x.1,Tryz.call229⟩
def ZkY (m:Zam):Prop:=(T4 (bif (eqI m.1 1) then (T3 ((pt True)∧(True∧(rB (Zbo m.2.2.2.2.1) (Za2 m))))) else (T4 (bif (eqI m.1 3) then (T2 ((pt True)∧(True∧(rB (Zbo m.2.2.2.2.1) (Za2 m))))) else (T4 (bif (eqI m.1 2) then (T2 (rB true (Za2 m))) else (T2 ((pt True)∧(True∧(bif btw m.2.2.1 1 999999998 then (T2 ((pt True)∧(T2 (bif ZaY m.2.2.2.1 then (T7 (rB (leI (ByteArray.size m.2.2.2.2.2) 40) (Za2 m))) else (T3 (rB false (Za2 m))))))) else (T5 (rB false (Za2 m)))))))))))))
def Zw9 (m:Zam):Prop:=(T6 (true=true∧(bif (!(ZbQ m (m.1,(m.2.1,(0,(0,(m.2.2.2.2.1,(⟨#[]⟩:ByteArray)))))))) then (True∧(rB false (Za2 m))) else (ZkY m))))
theorem ZsD (m:Zam):Zai Tryz.prog 262 [.ag (cellsOf Zae m)] (.c (.bool (Za2 m))) []:=by
  refine bc0 [ZbW,ZhB,Ziu,Zjj] [] [] [] L0 Tryz.func262 (fun hwf=>?_)
  refine Eq.mpr (β:=(T4 ((pt True)∧(T2 (bif (!(btw m.1 1 6)) then (T2 (rB false (Za2 m))) else (T2 ((pt True)∧(T2 (bif (!(btw m.2.1 1 999999999)) then (True∧(rB false (Za2 m))) else (T11 (bif (eqI m.1 1) then (Zw9 m) else (T2 (bif (eqI m.1 3) then (Zw9 m) else (T2 (bif (eqI m.1 4) then (T12 (T2 (true=true∧(bif (!(ZbQ m (m.1,(m.2.1,(m.2.2.1,(m.2.2.2.1,((⟨#[]⟩:ByteArray),m.2.2.2.2.2))))))) then (True∧(rB false (Za2 m))) else (ZkY m))))) else (T2 (bif (eqI m.1 5) then (T10 (true=true∧(bif (!(ZbQ m (m.1,(m.2.1,(m.2.2.1,(m.2.2.2.1,((⟨#[]⟩:ByteArray),(⟨#[]⟩:ByteArray)))))))) then (True∧(rB false (Za2 m))) else (ZkY m)))) else (T2 (bif (eqI m.1 6) then (T6 (true=true∧(bif (!(ZbQ m (m.1,(m.2.1,(m.2.2.1,(0,((⟨#[]⟩:ByteArray),(⟨#[]⟩:ByteArray)))))))) then (True∧(rB false (Za2 m))) else (ZkY m)))) else (T2 (true=true∧(bif (!(ZbQ m (m.1,(m.2.1,(0,(0,((⟨#[]⟩:ByteArray),(⟨#[]⟩:ByteArray)))))))) then (True∧(rB false (Za2 m))) else (ZkY m))))))))))))))))))))))) (by kernel_rfl) ?_
  unfold Zw9 ZkY T10 T11 T12 T2 T3 T4 T5 T6 T7
  exact Zu9
def ZsE:Zat Tryz.prog:=⟨262,[.s Zae],fun x=>True,fun x=>.c (.bool (Za2 x.1)),fun _=>[],fun x hx=>ZsD x.1,Tryz.call262⟩
end Go.Proofs.YtkompmgleojmlaaGreat
