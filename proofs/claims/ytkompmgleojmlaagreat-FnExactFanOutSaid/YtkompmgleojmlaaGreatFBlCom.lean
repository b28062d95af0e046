import Derived.Test.YtkompmgleojmlaaGreatFBlBox
set_option linter.unusedSimpArgs false
set_option linter.unusedVariables false
set_option maxRecDepth 100000
set_option maxHeartbeats 4000000
namespace Go.Proofs.YtkompmgleojmlaaGreat
open Go.ChangeShapes Go.WideShapes Go.ChangeAt Go.RowKit Go.Joins Go.Deep
open GoRep (rep bulk)
theorem blE (a b:ByteArray):(Op.bytesLess a.toList b.toList || eqS a b)=!Zg5 b a:=by
  rw [← ZsU]
  congr 1
theorem blN (a b:ByteArray):Op.bytesLess a.toList b.toList=Zg5 a b:=rfl
def ZxI (l:List ZaM):Nat→List AV→Mem→Zbn
  | 2,tm,M=>⟨Nat,fun y=>(ZcN (ZcN (ZcV tm [(7, .c (.int .i64 ((y:Nat):Int)))]) 2 3) 8 31,M),fun y=>(y≤List.length l∧∀ j,j < y→¬ Zjc l j),fun y=>(List.length l - y)⟩
  | _,_,_=>⟨Unit,fun _=>([],[]),fun _=>False,fun _=>0⟩
def ZxJ (l:List ZaM) (y0:Nat):Prop:=(T4 ((pt True)∧(T2 (bif (neI (boxW l (Zab l y0).2.1) y0) then (True∧(rB false (ZcJ l))) else (T2 (∃ y0' : Nat,(y0'≤List.length l∧∀ j,j < y0'→¬ Zjc l j)∧(List.length l - y0') < (List.length l - y0)∧((lxs [hn Zak l, .tp []] (TN 3 (lxs [hn Zak l,ci (List.length l)] (vI (w64 ((y0:Int) + 1)) y0'∧TN 31 (tpn 3 True)))))∧pt (True))))))))
theorem ZxK (l:List ZaM):Zat Tryz.prog 228 [.c (.hs .no Zak l)] (.c (.bool (ZcJ l))) []:=by
  refine bc0 [ZDe,Zkh] [] [] [] (ZxI l) Tryz.func228 (fun hwf=>?_)
  refine Eq.mpr (β:=(T4 ((∃ q:Nat,(q≤List.length l∧∀ j,j < q→¬ Zjc l j)∧((lxs [hn Zak l, .tp []] (TN 3 (lxs [hn Zak l,ci (List.length l)] (vI 0 q∧TN 31 (tpn 3 True)))))∧pt (True)))∧∀ y0:Nat,(y0≤List.length l∧∀ j,j < y0→¬ Zjc l j)→(True∧(bif (ltI y0 (List.length l)) then (True∧((ix 4 y0 (List.length l))∧(T4 ((pt (true=true))∧(True∧((pt True)∧(T2 (bif (!(Zdz (Zab l y0))) then (T4 (rB false (ZcJ l))) else (T3 (bif (gtI y0 0) then (T5 ((ix 4 (w64 ((y0:Int) - 1)) (List.length l))∧(T6 (bif (Op.bytesLess (Zab l y0).1.toList (Zab l (Int.toNat (w64 ((y0:Int) - 1)))).1.toList || eqS (Zab l y0).1 (Zab l (Int.toNat (w64 ((y0:Int) - 1)))).1) then (T2 (rB false (ZcJ l))) else (ZxJ l y0))))) else (T3 (ZxJ l y0)))))))))))) else (T4 (rB (leI (List.length l) 4) (ZcJ l)))))))) (by kernel_rfl) ?_
  unfold ZxJ T2 T3 T4 T5 T6
  exact ZvI
def ZxL:ZaI Tryz.prog:=⟨228,[.v (.list Zak)],fun x=>True,fun x=>.c (.bool (ZcJ x.1)),fun _=>[],fun x hx=>ZxK x.1,Tryz.call228⟩
def ZxM (l:List ZaM):Nat→List AV→Mem→Zbn
  | 2,tm,M=>⟨Nat,fun y=>(ZcN (ZcV tm [(2, .any),(3, .c (.int .i64 ((y:Nat):Int)))]) 4 42,M),fun y=>(y≤List.length l∧∀ j,j < y→¬ Zjc l j),fun y=>(List.length l - y)⟩
  | _,_,_=>⟨Unit,fun _=>([],[]),fun _=>False,fun _=>0⟩
def Zrw (y0:Nat) (l:List ZaM):Prop:=(ix 4 y0 (List.length l))
def ZxN (y0:Nat) (l:List ZaM):Prop:=(T2 (((4:Nat)=4∧((0:Int)≤0∧(0:Int)≤(y0:Int)∧((y0:Int):Int)≤(List.length l:Int)))∧(T2 ((Zrw y0 l)∧(T2 ((pt True)∧(T2 (bif (geI (boxW (List.drop (Int.toNat 0) (List.take y0 l)) (Zab l y0).2.1) 0) then (True∧(rB false (ZcJ l))) else (T3 (∃ y0' : Nat,(y0'≤List.length l∧∀ j,j < y0'→¬ Zjc l j)∧(List.length l - y0') < (List.length l - y0)∧((lxs [hn Zak l, .tp []] (True∧vI (w64 ((y0:Int) + 1)) y0'∧TN 42 (tpn 3 True)))∧pt (True))))))))))))
theorem ZxO (l:List ZaM):Zat Tryz.prog 261 [.c (.hs .no Zak l)] (.c (.bool (ZcJ l))) []:=by
  refine bc0 [ZDh,Zkj] [] [] [] (ZxM l) Tryz.func261 (fun hwf=>?_)
  refine Eq.mpr (β:=(T2 ((∃ q:Nat,(q≤List.length l∧∀ j,j < q→¬ Zjc l j)∧((lxs [hn Zak l, .tp []] (True∧vI 0 q∧TN 42 (tpn 3 True)))∧pt (True)))∧∀ y0:Nat,(y0≤List.length l∧∀ j,j < y0→¬ Zjc l j)→(T4 (bif (ltI y0 (List.length l)) then ((pt (true=true))∧(T2 ((Zrw y0 l)∧(True∧((pt True)∧(T2 (bif (!(Zdz (Zab l y0))) then (T4 (rB false (ZcJ l))) else (T3 (bif (gtI y0 0) then (T3 ((ix 4 (w64 ((y0:Int) - 1)) (List.length l))∧(T4 ((Zrw y0 l)∧(T6 (bif (!Op.bytesLess (Zab l (Int.toNat (w64 ((y0:Int) - 1)))).1.toList (Zab l y0).1.toList) then (T2 (rB false (ZcJ l))) else (ZxN y0 l))))))) else (T3 (ZxN y0 l))))))))))) else (T4 (rB (leI (List.length l) 4) (ZcJ l)))))))) (by kernel_rfl) ?_
  unfold ZxN Zrw T2 T3 T4 T6
  exact ZvI
def ZxP:ZaI Tryz.prog:=⟨261,[.v (.list Zak)],fun x=>True,fun x=>.c (.bool (ZcJ x.1)),fun _=>[],fun x hx=>ZxO x.1,Tryz.call261⟩
theorem Ziz {m:Zax}:Zbm m=true↔((1≤m.2.1∧m.2.1≤999999999) ∧
  (((m.1=1∨m.1=3)∧Zbx m.2.2.2.2.1=true∧m.2.2.1=0∧m.2.2.2.1=0∧m.2.2.2.2.2=(⟨#[]⟩:ByteArray)) ∨
   (m.1=2∧m.2.2.1=0∧m.2.2.2.1=0∧m.2.2.2.2.1=(⟨#[]⟩:ByteArray)∧m.2.2.2.2.2=(⟨#[]⟩:ByteArray)) ∨
   (m.1=4∧(1≤m.2.2.1∧m.2.2.1≤999999998)∧(0≤m.2.2.2.1∧m.2.2.2.1≤31)∧m.2.2.2.2.2.size≤40∧m.2.2.2.2.1=(⟨#[]⟩:ByteArray)) ∨
   (m.1=5∧(1≤m.2.2.1∧m.2.2.1≤999999998)∧(0≤m.2.2.2.1∧m.2.2.2.1≤31)∧m.2.2.2.2.1=(⟨#[]⟩:ByteArray)∧m.2.2.2.2.2=(⟨#[]⟩:ByteArray)) ∨
   (m.1=6∧(1≤m.2.2.1∧m.2.2.1≤999999998)∧m.2.2.2.1=0∧m.2.2.2.2.1=(⟨#[]⟩:ByteArray)∧m.2.2.2.2.2=(⟨#[]⟩:ByteArray)))):=by
  unfold Zbm
  rw [decide_eq_true_eq]
theorem ZjL {a b:Zax}:Zcc a b=true↔(a.1=b.1∧a.2.1=b.2.1∧a.2.2.1=b.2.2.1∧a.2.2.2.1=b.2.2.2.1∧a.2.2.2.2.1=b.2.2.2.2.1∧a.2.2.2.2.2=b.2.2.2.2.2):=by
  rw [Zf5]
  obtain ⟨a1,a2,a3,a4,a5,a6⟩:=a
  obtain ⟨b1,b2,b3,b4,b5,b6⟩:=b
  simp only [Prod.mk.injEq]
theorem Zrx {a b:Zax}:Zcc a b=false↔¬ (a.1=b.1∧a.2.1=b.2.1∧a.2.2.1=b.2.2.1∧a.2.2.2.1=b.2.2.2.1∧a.2.2.2.2.1=b.2.2.2.2.1∧a.2.2.2.2.2=b.2.2.2.2.2):=by
  rw [← Bool.not_eq_true,ZjL]
theorem Zz8:ByteArray.size (⟨#[]⟩:ByteArray)=0:=rfl
def ZhL (m:Zax):Prop:=(T4 (rB false (Zbm m)))
def ZxQ (m:Zax):Prop:=(T2 ((pt True)∧(T5 (bif Zbx m.2.2.2.2.1 then (T2 ((pt True)∧(T2 (bif btw m.2.1 1 999999999 then (T2 (true=true∧(T2 (rB (Zcc (0,(0,(m.2.2.1,(m.2.2.2.1,((⟨#[]⟩:ByteArray),m.2.2.2.2.2))))) (0,(0,(0,(0,((⟨#[]⟩:ByteArray),(⟨#[]⟩:ByteArray))))))) (Zbm m))))) else (T2 (rB false (Zbm m))))))) else (ZhL m)))))
theorem Zth (m:Zax):Zat Tryz.prog 229 [.ag (cellsOf Zah m)] (.c (.bool (Zbm m))) []:=by
  refine bc0 [Zg7,Zz7,Zex,Znu] [] [] [] L0 Tryz.func229 (fun hwf=>?_)
  refine Eq.mpr (β:=(T12 (T2 (bif (eqI m.1 1) then (ZxQ m) else (T2 (bif (eqI m.1 3) then (ZxQ m) else (T2 (bif (eqI m.1 2) then (T5 ((pt True)∧(T2 (bif btw m.2.1 1 999999999 then (T2 (true=true∧(T2 (rB (Zcc (0,(0,m.2.2)) (0,(0,(0,(0,((⟨#[]⟩:ByteArray),(⟨#[]⟩:ByteArray))))))) (Zbm m))))) else (T2 (rB false (Zbm m))))))) else (T2 (bif (eqI m.1 4) then (T2 ((pt True)∧(True∧(bif btw m.2.2.1 1 999999998 then (T2 ((pt True)∧(T2 (bif Zbf m.2.2.2.1 then (T12 (T2 (bif (leI (ByteArray.size m.2.2.2.2.2) 40) then (T2 ((pt True)∧(T2 (bif btw m.2.1 1 999999999 then (T2 (true=true∧(T2 (rB (Zcc (0,(0,(0,(0,(m.2.2.2.2.1,(⟨#[]⟩:ByteArray)))))) (0,(0,(0,(0,((⟨#[]⟩:ByteArray),(⟨#[]⟩:ByteArray))))))) (Zbm m))))) else (T2 (rB false (Zbm m))))))) else (ZhL m)))) else (T10 (ZhL m)))))) else (T12 (ZhL m)))))) else (T2 (bif (eqI m.1 5) then (T2 ((pt True)∧(True∧(bif btw m.2.2.1 1 999999998 then (T2 ((pt True)∧(T8 (bif Zbf m.2.2.2.1 then (T2 ((pt True)∧(T2 (bif btw m.2.1 1 999999999 then (T2 (true=true∧(T2 (rB (Zcc (0,(0,(0,(0,m.2.2.2.2)))) (0,(0,(0,(0,((⟨#[]⟩:ByteArray),(⟨#[]⟩:ByteArray))))))) (Zbm m))))) else (T2 (rB false (Zbm m))))))) else (ZhL m))))) else (T8 (ZhL m)))))) else (T2 (bif (eqI m.1 6) then (T2 ((pt True)∧(T5 (bif btw m.2.2.1 1 999999998 then (T2 ((pt True)∧(T2 (bif btw m.2.1 1 999999999 then (T2 (true=true∧(T2 (rB (Zcc (0,(0,(0,m.2.2.2))) (0,(0,(0,(0,((⟨#[]⟩:ByteArray),(⟨#[]⟩:ByteArray))))))) (Zbm m))))) else (T2 (rB false (Zbm m))))))) else (ZhL m))))) else (T2 (ZhL m)))))))))))))))) (by kernel_rfl) ?_
  unfold ZxQ ZhL T10 T12 T2 T4 T5 T8
  exact ZvU
def Zti:ZaI Tryz.prog:=⟨229,[.s Zah],fun x=>True,fun x=>.c (.bool (Zbm x.1)),fun _=>[],fun x hx=>Zth x.1,Tryz.call229⟩
def ZlL (m:Zax):Prop:=(T4 (bif (eqI m.1 1) then (T3 ((pt True)∧(True∧(rB (Zbx m.2.2.2.2.1) (Zbm m))))) else (T4 (bif (eqI m.1 3) then (T2 ((pt True)∧(True∧(rB (Zbx m.2.2.2.2.1) (Zbm m))))) else (T4 (bif (eqI m.1 2) then (T2 (rB true (Zbm m))) else (T2 ((pt True)∧(True∧(bif btw m.2.2.1 1 999999998 then (T2 ((pt True)∧(T2 (bif Zbf m.2.2.2.1 then (T7 (rB (leI (ByteArray.size m.2.2.2.2.2) 40) (Zbm m))) else (T3 (rB false (Zbm m))))))) else (T5 (rB false (Zbm m)))))))))))))
def ZxR (m:Zax):Prop:=(T6 (true=true∧(bif (!(Zcc m (m.1,(m.2.1,(0,(0,(m.2.2.2.2.1,(⟨#[]⟩:ByteArray)))))))) then (True∧(rB false (Zbm m))) else (ZlL m))))
theorem Ztj (m:Zax):Zat Tryz.prog 262 [.ag (cellsOf Zah m)] (.c (.bool (Zbm m))) []:=by
  refine bc0 [ZhP,Zmn,Zg8,Znv] [] [] [] L0 Tryz.func262 (fun hwf=>?_)
  refine Eq.mpr (β:=(T4 ((pt True)∧(T2 (bif (!(btw m.1 1 6)) then (T2 (rB false (Zbm m))) else (T2 ((pt True)∧(T2 (bif (!(btw m.2.1 1 999999999)) then (True∧(rB false (Zbm m))) else (T11 (bif (eqI m.1 1) then (ZxR m) else (T2 (bif (eqI m.1 3) then (ZxR m) else (T2 (bif (eqI m.1 4) then (T12 (T2 (true=true∧(bif (!(Zcc m (m.1,(m.2.1,(m.2.2.1,(m.2.2.2.1,((⟨#[]⟩:ByteArray),m.2.2.2.2.2))))))) then (True∧(rB false (Zbm m))) else (ZlL m))))) else (T2 (bif (eqI m.1 5) then (T10 (true=true∧(bif (!(Zcc m (m.1,(m.2.1,(m.2.2.1,(m.2.2.2.1,((⟨#[]⟩:ByteArray),(⟨#[]⟩:ByteArray)))))))) then (True∧(rB false (Zbm m))) else (ZlL m)))) else (T2 (bif (eqI m.1 6) then (T6 (true=true∧(bif (!(Zcc m (m.1,(m.2.1,(m.2.2.1,(0,((⟨#[]⟩:ByteArray),(⟨#[]⟩:ByteArray)))))))) then (True∧(rB false (Zbm m))) else (ZlL m)))) else (T2 (true=true∧(bif (!(Zcc m (m.1,(m.2.1,(0,(0,((⟨#[]⟩:ByteArray),(⟨#[]⟩:ByteArray)))))))) then (True∧(rB false (Zbm m))) else (ZlL m))))))))))))))))))))))) (by kernel_rfl) ?_
  unfold ZxR ZlL T10 T11 T12 T2 T3 T4 T5 T6 T7
  exact ZvU
def Ztk:ZaI Tryz.prog:=⟨262,[.s Zah],fun x=>True,fun x=>.c (.bool (Zbm x.1)),fun _=>[],fun x hx=>Ztj x.1,Tryz.call262⟩
end Go.Proofs.YtkompmgleojmlaaGreat
