import Derived.Test.YtkompmgleojmlaaGreatDBlLib
set_option linter.unusedSimpArgs false
set_option linter.unusedVariables false
set_option maxRecDepth 100000
set_option maxHeartbeats 4000000
namespace Go.Proofs.YtkompmgleojmlaaGreat
open Go.ChangeShapes Go.WideShapes Go.ChangeAt Go.RowKit Go.Joins Go.Deep
open GoRep (rep bulk)
theorem Zs6 (a:List ZbB) (b:List ZbB):Zai Tryz.prog 105 [.ag [.hs .no Zal a], .ag [.hs .no Zal b]] (.c (.bool (ZaS a b))) []:=by
  refine bc0 [ZeI] [] [] [] L0 Tryz.func105 (fun hwf=>?_)
  refine Eq.mpr (β:=(T7 ((pt True)∧(True∧(rB (ZaS a b) (ZaS a b)))))) (by kernel_rfl) ?_
  simp only [SIA,eq_self]
def ZlD:Zat Tryz.prog:=⟨105,[.s (.list Zal), .s (.list Zal)],fun x=>True,fun x=>.c (.bool (ZaS x.1 x.2.1)),fun _=>[],fun x hx=>Zs6 x.1 x.2.1,Tryz.call105⟩
theorem Zri (a:Zbc) (b:Zbc):Zai Tryz.prog 172 [.ag [.hs .no Zah a.1, .bool a.2.1, .bool a.2.2], .ag [.hs .no Zah b.1, .bool b.2.1, .bool b.2.2]] (.c (.bool (Zbf a b))) []:=by
  refine bc0 [ZeL] [] [] [] L0 Tryz.func172 (fun hwf=>?_)
  refine Eq.mpr (β:=(T7 ((pt True)∧(True∧(bif Zcm a.1 b.1 then (T4 (some TypeDesc.bool=some TypeDesc.bool∧(T2 (bif (eqO a.2.1 b.2.1) then (T4 (some TypeDesc.bool=some TypeDesc.bool∧(T2 (rB (eqO a.2.2 b.2.2) (Zbf a b))))) else (T2 (rB false (Zbf a b))))))) else (T4 (rB false (Zbf a b)))))))) (by kernel_rfl) ?_
  exact Zdo
def Zj6:Zat Tryz.prog:=⟨172,[.s ZcU, .s ZcU],fun x=>True,fun x=>.c (.bool (Zbf x.1 x.2.1)),fun _=>[],fun x hx=>Zri x.1 x.2.1,Tryz.call172⟩
theorem Zma (a:ZaK) (b:ZaK):Zai Tryz.prog 239 [.ag [.int .i64 a.1, .hs .no ZaL a.2.1, .int .i64 a.2.2], .ag [.int .i64 b.1, .hs .no ZaL b.2.1, .int .i64 b.2.2]] (.c (.bool (ZbT a b))) []:=by
  refine bc0 [ZeO] [] [] [] L0 Tryz.func239 (fun hwf=>?_)
  refine Eq.mpr (β:=(T9 (bif (eqI a.1 b.1) then (T4 ((pt True)∧(T2 (bif Za8 a.2.1 b.2.1 then (T7 (rB (eqI a.2.2 b.2.2) (ZbT a b))) else (T2 (rB false (ZbT a b))))))) else (T4 (rB false (ZbT a b)))))) (by kernel_rfl) ?_
  exact Zdo
def Zmb:Zat Tryz.prog:=⟨239,[.s Zak, .s Zak],fun x=>True,fun x=>.c (.bool (ZbT x.1 x.2.1)),fun _=>[],fun x hx=>Zma x.1 x.2.1,Tryz.call239⟩
theorem Zyb {α:Type} {p:α→α→Bool} (h:∀ x y,p x y=true↔x=y):∀ {xs ys:List α},ZiV p xs ys=true↔xs=ys
  | [],[]=>by simp [ZiV]
  | _ :: _,[]=>by simp [ZiV]
  | [],_ :: _=>by simp [ZiV]
  | x :: xs,y :: ys=>by simp [ZiV,h,Zyb h]
theorem Zi0 {xs ys:List ZaK}:ZiV (fun x y:ZaK=>ZbT x y) xs ys=true↔xs=ys:=Zyb (fun _ _=>Zgb)
theorem Zpi (a:Zby) (b:Zby):Zai Tryz.prog 171 [.ag [.bool a.1, .hs .no Zak a.2], .ag [.bool b.1, .hs .no Zak b.2]] (.c (.bool (Za5 a b))) []:=by
  refine bc0 [Zmb] [] [Zcc] [] L0 Tryz.func171 (fun hwf=>?_)
  refine Eq.mpr (β:=(T7 (some TypeDesc.bool=some TypeDesc.bool∧(True∧(bif (eqO a.1 b.1) then (T4 (((∀ z0 w0:ZaK,True∧True)∧∀ (_:ZaK→ZaK→Bool) (_ _:List ZaK),true=true)∧(T2 (rB (ZiV (fun z0 w0:ZaK=>ZbT z0 w0) a.2 b.2) (Za5 a b))))) else (T2 (rB false (Za5 a b)))))))) (by kernel_rfl) ?_
  simp only [SIA,eq_self]
  repeat' (first | apply And.intro | intro _)
  all_goals (first | trivial | (rw [Bool.eq_iff_iff]; simp_all [Prod.ext_iff,EQA,Zi0]; done) | (simp_all [Prod.ext_iff,EQA,Zi0]; done) | omega)
def Zi1:Zat Tryz.prog:=⟨171,[.s ZcG, .s ZcG],fun x=>True,fun x=>.c (.bool (Za5 x.1 x.2.1)),fun _=>[],fun x hx=>Zpi x.1 x.2.1,Tryz.call171⟩
def Zne (a:Zac) (b:Zac):Prop:=(T4 (rB false (ZaQ a b)))
def Znf (a:Zac) (b:Zac):Prop:=(T6 (Zne a b))
def Zng (a:Zac) (b:Zac):Prop:=(T6 (Znf a b))
theorem Znh (a:Zac) (b:Zac):Zai Tryz.prog 94 [.ag (cellsOf Zag a), .ag (cellsOf Zag b)] (.c (.bool (ZaQ a b))) []:=by
  refine bc0 [ZlD,Zi1,Zj6] [] [] [] L0 Tryz.func94 (fun hwf=>?_)
  refine Eq.mpr (β:=(T7 (some TypeDesc.bool=some TypeDesc.bool∧(True∧(bif (eqO a.1 b.1) then (T7 (bif (eqI a.2.1 b.2.1) then (T7 (bif (eqI a.2.2.1 b.2.2.1) then (T7 (bif (eqI a.2.2.2.1 b.2.2.2.1) then (T4 ((pt True)∧(T2 (bif ZaS a.2.2.2.2.1 b.2.2.2.2.1 then (T4 ((pt True)∧(T2 (bif Za5 a.2.2.2.2.2.1 b.2.2.2.2.2.1 then (T7 (bif (eqS a.2.2.2.2.2.2.1 b.2.2.2.2.2.2.1) then (T7 (bif (eqS a.2.2.2.2.2.2.2.1 b.2.2.2.2.2.2.2.1) then (T4 ((pt True)∧(T2 (bif Zbf a.2.2.2.2.2.2.2.2.1 b.2.2.2.2.2.2.2.2.1 then (T4 (true=true∧(T2 (bif (ZAn a.2.2.2.2.2.2.2.2.2.1 b.2.2.2.2.2.2.2.2.2.1) then (T4 (true=true∧(T2 (bif (Zr4 a.2.2.2.2.2.2.2.2.2.2.1 b.2.2.2.2.2.2.2.2.2.2.1) then (T7 (rB (eqI a.2.2.2.2.2.2.2.2.2.2.2 b.2.2.2.2.2.2.2.2.2.2.2) (ZaQ a b))) else (T2 (rB false (ZaQ a b))))))) else (Zne a b))))) else (T2 (Zne a b)))))) else (T4 (Zne a b)))) else (Znf a b))) else (T2 (Znf a b)))))) else (T4 (Znf a b)))))) else (Zng a b))) else (T2 (Zng a b)))) else (T4 (Zng a b)))) else (T6 (Zng a b))))))) (by kernel_rfl) ?_
  unfold Zng Znf Zne T2 T4 T6 T7
  exact Zdo
def Zni:Zat Tryz.prog:=⟨94,[.s Zag, .s Zag],fun x=>True,fun x=>.c (.bool (ZaQ x.1 x.2.1)),fun _=>[],fun x hx=>Znh x.1 x.2.1,Tryz.call94⟩
def Zs7 (a:List ZbB) (b:List ZbB):Nat→List AV→Mem→Za3
  | 4,tm,M=>⟨Nat,fun y=>(Zb2 (Zcx tm [(4, .any),(5, .c (.int .i64 ((y:Nat):Int)))]) 13 18,M),fun y=>(y≤List.length a∧∀ j,j < y→ZaM a j=ZaM b j),fun y=>(List.length a - y)⟩
  | _,_,_=>⟨Unit,fun _=>([],[]),fun _=>False,fun _=>0⟩
theorem Zs8 (a:List ZbB) (b:List ZbB):Zai Tryz.prog 82 [.ag [.hs .no Zal a], .ag [.hs .no Zal b]] (.c (.bool (ZaS a b))) []:=by
  refine bc0 [] [] [] [] (Zs7 a b) Tryz.func82 (fun hwf=>?_)
  refine Eq.mpr (β:=(T10 (bif (neI (List.length a) (List.length b)) then (True∧(rB false (ZaS a b))) else (True∧((∃ q:Nat,(q≤List.length a∧∀ j,j < q→ZaM a j=ZaM b j)∧((lxs [.ag [.hs .no Zal a], .ag [.hs .no Zal b], .c (.bp 0 0), .c (.bp 1 0)] (True∧vI 0 q∧lxs [.c (.bp 0 0),hn Zal a,ci (List.length a), .c (.bp 1 0),hn Zal b,ci (List.length b), .c (.bool false)] (TN 18 True)))∧pt (lb (.box [.hs .no Zal a])∧lb (.box [.hs .no Zal b])∧True)))∧∀ y0:Nat,(y0≤List.length a∧∀ j,j < y0→ZaM a j=ZaM b j)→(T5 (bif (ltI y0 (List.length a)) then ((pt (true=true))∧(T3 ((ix 2 y0 (List.length a))∧(T4 ((ix 2 y0 (List.length b))∧(True∧(true=true∧(bif (!(Zmw (ZaM a y0) (ZaM b y0))) then (True∧(rB false (ZaS a b))) else (T3 (∃ y0' : Nat,(y0'≤List.length a∧∀ j,j < y0'→ZaM a j=ZaM b j)∧(List.length a - y0') < (List.length a - y0)∧((lxs [.ag [.hs .no Zal a], .ag [.hs .no Zal b], .c (.bp 0 0), .c (.bp 1 0)] (True∧vI (w64 ((y0:Int) + 1)) y0'∧lxs [.c (.bp 0 0),hn Zal a,ci (List.length a), .c (.bp 1 0),hn Zal b,ci (List.length b), .c (.bool false)] (TN 18 True)))∧pt (lb (.box [.hs .no Zal a])∧lb (.box [.hs .no Zal b])∧True)))))))))))) else (True∧(rB true (ZaS a b)))))))))) (by kernel_rfl) ?_
  unfold T10 T3 T4 T5
  simp only [SIA,eq_self]
  have hm:List.length a≤maxLen:=hwf.1.1.1
  refine ⟨fun hl=>?_,fun hl=>⟨⟨0,⟨Nat.zero_le _,ZaH⟩,rfl⟩,fun k hk=>⟨fun hlt=>⟨by omega,by omega,fun hp=>?_,fun hp=>?_⟩,fun hge=>?_⟩⟩⟩
  · exact (ZbM.2 (fun e=>hl (by rw [e]))).symm
  · exact (ZbM.2 (fun e=>Zd8.1 hp (by rw [e]))).symm
  · exact Zwd
  · obtain rfl:k=List.length a:=by omega
    have hl' : List.length a=List.length b:=by omega
    exact (Zdl.2 (ZbE (t:=Zal) hl' hk.2)).symm
def ZlE:Zat Tryz.prog:=⟨82,[.s (.list Zal), .s (.list Zal)],fun x=>True,fun x=>.c (.bool (ZaS x.1 x.2.1)),fun _=>[],fun x hx=>Zs8 x.1 x.2.1,Tryz.call82⟩
def Zyc (a:List ByteArray) (b:List ByteArray):Nat→List AV→Mem→Za3
  | 4,tm,M=>⟨Nat,fun y=>(Zb2 (Zcx tm [(4, .any),(5, .c (.int .i64 ((y:Nat):Int)))]) 11 15,M),fun y=>(y≤List.length a∧∀ j,j < y→Zas a j=Zas b j),fun y=>(List.length a - y)⟩
  | _,_,_=>⟨Unit,fun _=>([],[]),fun _=>False,fun _=>0⟩
theorem Zyd (a:List ByteArray) (b:List ByteArray):Zai Tryz.prog 221 [.c (.hs .no ZaL a), .c (.hs .no ZaL b)] (.c (.bool (Za8 a b))) []:=by
  refine bc0 [] [] [] [] (Zyc a b) Tryz.func221 (fun hwf=>?_)
  refine Eq.mpr (β:=(T6 (bif (neI (List.length a) (List.length b)) then (True∧(rB false (Za8 a b))) else (True∧((∃ q:Nat,(q≤List.length a∧∀ j,j < q→Zas a j=Zas b j)∧((lxs [hn ZaL a,hn ZaL b, .tp [], .tp []] (True∧vI 0 q∧lxs [hn ZaL a,ci (List.length a),hn ZaL b,ci (List.length b), .c (.bool false)] (TN 15 True)))∧pt (True)))∧∀ y0:Nat,(y0≤List.length a∧∀ j,j < y0→Zas a j=Zas b j)→(T4 (bif (ltI y0 (List.length a)) then ((pt (true=true))∧(T2 ((ix 1 y0 (List.length a))∧(T3 ((ix 1 y0 (List.length b))∧(T2 (bif (!eqS (Zas a y0) (Zas b y0)) then (True∧(rB false (Za8 a b))) else (T3 (∃ y0' : Nat,(y0'≤List.length a∧∀ j,j < y0'→Zas a j=Zas b j)∧(List.length a - y0') < (List.length a - y0)∧((lxs [hn ZaL a,hn ZaL b, .tp [], .tp []] (True∧vI (w64 ((y0:Int) + 1)) y0'∧lxs [hn ZaL a,ci (List.length a),hn ZaL b,ci (List.length b), .c (.bool false)] (TN 15 True)))∧pt (True))))))))))) else (True∧(rB true (Za8 a b)))))))))) (by kernel_rfl) ?_
  unfold T2 T3 T4 T6
  simp only [SIA,eq_self]
  have hm:List.length a≤maxLen:=hwf.1.1
  refine ⟨fun hl=>?_,fun hl=>⟨⟨0,⟨Nat.zero_le _,ZaH⟩,rfl⟩,fun k hk=>⟨fun hlt=>⟨by omega,by omega,fun hp=>?_,fun hp=>?_⟩,fun hge=>?_⟩⟩⟩
  · exact (ZbG.2 (fun e=>hl (by rw [e]))).symm
  · exact (ZbG.2 (fun e=>hp (by rw [e]))).symm
  · exact ⟨k + 1,⟨by omega,ZaD hk.2 (hp)⟩,by omega,Zbj (by omega)⟩
  · obtain rfl:k=List.length a:=by omega
    have hl' : List.length a=List.length b:=by omega
    exact (ZcP.2 (ZbE (t:=ZaL) hl' hk.2)).symm
def Zye:Zat Tryz.prog:=⟨221,[.v (.list ZaL), .v (.list ZaL)],fun x=>True,fun x=>.c (.bool (Za8 x.1 x.2.1)),fun _=>[],fun x hx=>Zyd x.1 x.2.1,Tryz.call221⟩
def Zrj (a:Zbc) (b:Zbc):Nat→List AV→Mem→Za3
  | 4,tm,M=>⟨Nat,fun y=>(Zb2 (Zcx tm [(4, .any),(5, .c (.int .i64 ((y:Nat):Int)))]) 27 18,M),fun y=>(y≤List.length a.1∧∀ j,j < y→Zad a.1 j=Zad b.1 j),fun y=>(List.length a.1 - y)⟩
  | _,_,_=>⟨Unit,fun _=>([],[]),fun _=>False,fun _=>0⟩
theorem Zrk (a:Zbc) (b:Zbc):Zai Tryz.prog 151 [.ag [.hs .no Zah a.1, .bool a.2.1, .bool a.2.2], .ag [.hs .no Zah b.1, .bool b.2.1, .bool b.2.2]] (.c (.bool (Zbf a b))) []:=by
  refine bc0 [] [] [] [] (Zrj a b) Tryz.func151 (fun hwf=>?_)
  refine Eq.mpr (β:=(T7 (some TypeDesc.bool=some TypeDesc.bool∧(True∧(bif (!eqO a.2.1 b.2.1) then (T4 (rB false (Zbf a b))) else (T4 (some TypeDesc.bool=some TypeDesc.bool∧(T2 (bif (!eqO a.2.2 b.2.2) then (T2 (rB false (Zbf a b))) else (T8 (bif (neI (List.length a.1) (List.length b.1)) then (True∧(rB false (Zbf a b))) else (True∧((∃ q:Nat,(q≤List.length a.1∧∀ j,j < q→Zad a.1 j=Zad b.1 j)∧((lxs [.ag [.hs .no Zah a.1, .bool a.2.1, .bool a.2.2], .ag [.hs .no Zah b.1, .bool b.2.1, .bool b.2.2], .c (.bp 0 0), .c (.bp 1 0)] (True∧vI 0 q∧lxs [.c (.bp 0 1), .c (.bool a.2.1), .c (.bp 1 1), .c (.bool b.2.1), .c (.bool (!eqO a.2.1 b.2.1)), .c (.bool false), .c (.bp 0 2), .c (.bool a.2.2), .c (.bp 1 2), .c (.bool b.2.2), .c (.bool (!eqO a.2.2 b.2.2)), .c (.bool (!eqO a.2.2 b.2.2)), .c (.bool false), .c (.bp 0 0),hn Zah a.1,ci (List.length a.1), .c (.bp 1 0),hn Zah b.1,ci (List.length b.1), .c (.bool (neI (List.length a.1) (List.length b.1))), .c (.bool false)] (TN 18 True)))∧pt (lb (.box [.hs .no Zah a.1, .bool a.2.1, .bool a.2.2])∧lb (.box [.hs .no Zah b.1, .bool b.2.1, .bool b.2.2])∧True)))∧∀ y0:Nat,(y0≤List.length a.1∧∀ j,j < y0→Zad a.1 j=Zad b.1 j)→(T5 (bif (ltI y0 (List.length a.1)) then ((pt (true=true))∧(T3 ((ix 4 y0 (List.length a.1))∧(T4 ((ix 4 y0 (List.length b.1))∧(True∧(true=true∧(bif (!(ZbI (Zad a.1 y0) (Zad b.1 y0))) then (True∧(rB false (Zbf a b))) else (T3 (∃ y0' : Nat,(y0'≤List.length a.1∧∀ j,j < y0'→Zad a.1 j=Zad b.1 j)∧(List.length a.1 - y0') < (List.length a.1 - y0)∧((lxs [.ag [.hs .no Zah a.1, .bool a.2.1, .bool a.2.2], .ag [.hs .no Zah b.1, .bool b.2.1, .bool b.2.2], .c (.bp 0 0), .c (.bp 1 0)] (True∧vI (w64 ((y0:Int) + 1)) y0'∧lxs [.c (.bp 0 1), .c (.bool a.2.1), .c (.bp 1 1), .c (.bool b.2.1), .c (.bool (!eqO a.2.1 b.2.1)), .c (.bool false), .c (.bp 0 2), .c (.bool a.2.2), .c (.bp 1 2), .c (.bool b.2.2), .c (.bool (!eqO a.2.2 b.2.2)), .c (.bool (!eqO a.2.2 b.2.2)), .c (.bool false), .c (.bp 0 0),hn Zah a.1,ci (List.length a.1), .c (.bp 1 0),hn Zah b.1,ci (List.length b.1), .c (.bool (neI (List.length a.1) (List.length b.1))), .c (.bool false)] (TN 18 True)))∧pt (lb (.box [.hs .no Zah a.1, .bool a.2.1, .bool a.2.2])∧lb (.box [.hs .no Zah b.1, .bool b.2.1, .bool b.2.2])∧True)))))))))))) else (True∧(rB true (Zbf a b)))))))))))))))))) (by kernel_rfl) ?_
  unfold T2 T3 T4 T5 T7 T8
  simp only [SIA,eq_self]
  have hm:List.length a.1≤maxLen:=hwf.1.1.1
  refine ⟨fun h1=>?_,fun h1=>⟨fun h2=>?_,fun h2=>⟨fun h3=>?_,fun h3=>⟨⟨0,⟨Nat.zero_le _,ZaH⟩,rfl⟩,fun k hk=>⟨fun hlt=>⟨by omega,by omega,fun hp=>?_,fun hp=>?_⟩,fun hge=>?_⟩⟩⟩⟩⟩
  · exact (Zb7.2 (fun e=>h1 (by rw [e]))).symm
  · exact (Zb7.2 (fun e=>h2 (by rw [e]))).symm
  · exact (Zb7.2 (fun e=>h3 (by rw [e]))).symm
  · exact (Zb7.2 (fun e=>Zeb.1 hp (by rw [e]))).symm
  · exact Zwc
  · obtain rfl:k=List.length a.1:=by omega
    have hl' : List.length a.1=List.length b.1:=by omega
    have hx:=ZbE (t:=Zah) hl' hk.2
    exact (Zec.2 (Prod.ext hx (Prod.ext h1 h2))).symm
def Zrl:Zat Tryz.prog:=⟨151,[.s ZcU, .s ZcU],fun x=>True,fun x=>.c (.bool (Zbf x.1 x.2.1)),fun _=>[],fun x hx=>Zrk x.1 x.2.1,Tryz.call151⟩
def Zpj (a:Zby) (b:Zby):Nat→List AV→Mem→Za3
  | 4,tm,M=>⟨Nat,fun y=>(Zb2 (Zcx tm [(4, .any),(5, .c (.int .i64 ((y:Nat):Int)))]) 20 51,M),fun y=>(y≤List.length a.2∧∀ j,j < y→Zav a.2 j=Zav b.2 j),fun y=>(List.length a.2 - y)⟩
  | _,_,_=>⟨Unit,fun _=>([],[]),fun _=>False,fun _=>0⟩
def Zrm (y0:Nat) (a:Zby):Prop:=(ix 3 y0 (List.length a.2))
def Zrn (y0:Nat) (b:Zby):Prop:=(ix 3 y0 (List.length b.2))
theorem Zpk (a:Zby) (b:Zby):Zai Tryz.prog 150 [.ag [.bool a.1, .hs .no Zak a.2], .ag [.bool b.1, .hs .no Zak b.2]] (.c (.bool (Za5 a b))) []:=by
  refine bc0 [Zye] [] [] [] (Zpj a b) Tryz.func150 (fun hwf=>?_)
  refine Eq.mpr (β:=(T7 (some TypeDesc.bool=some TypeDesc.bool∧(True∧(bif (!eqO a.1 b.1) then (T2 (rB false (Za5 a b))) else (T8 (bif (neI (List.length a.2) (List.length b.2)) then (True∧(rB false (Za5 a b))) else (True∧((∃ q:Nat,(q≤List.length a.2∧∀ j,j < q→Zav a.2 j=Zav b.2 j)∧((lxs [.ag [.bool a.1, .hs .no Zak a.2], .ag [.bool b.1, .hs .no Zak b.2], .c (.bp 0 0), .c (.bp 1 0)] (True∧vI 0 q∧lxs [.c (.bp 0 0), .c (.bool a.1), .c (.bp 1 0), .c (.bool b.1), .c (.bool (!eqO a.1 b.1)), .c (.bool false), .c (.bp 0 1),hn Zak a.2,ci (List.length a.2), .c (.bp 1 1),hn Zak b.2,ci (List.length b.2), .c (.bool (neI (List.length a.2) (List.length b.2))), .c (.bool false)] (TN 51 True)))∧pt (lb (.box [.bool a.1, .hs .no Zak a.2])∧lb (.box [.bool b.1, .hs .no Zak b.2])∧True)))∧∀ y0:Nat,(y0≤List.length a.2∧∀ j,j < y0→Zav a.2 j=Zav b.2 j)→(T5 (bif (ltI y0 (List.length a.2)) then ((pt (true=true))∧(T3 ((Zrm y0 a)∧(T5 ((Zrn y0 b)∧(T4 (bif (neI (Zav a.2 y0).1 (Zav b.2 y0).1) then (T4 (rB false (Za5 a b))) else (T3 ((Zrm y0 a)∧(T5 ((Zrn y0 b)∧(T5 (bif (neI (Zav a.2 y0).2.2 (Zav b.2 y0).2.2) then (T2 (rB false (Za5 a b))) else (T3 ((Zrm y0 a)∧(T5 ((Zrn y0 b)∧(T2 ((pt True)∧(T2 (bif (!(Za8 (Zav a.2 y0).2.1 (Zav b.2 y0).2.1)) then (True∧(rB false (Za5 a b))) else (T3 (∃ y0' : Nat,(y0'≤List.length a.2∧∀ j,j < y0'→Zav a.2 j=Zav b.2 j)∧(List.length a.2 - y0') < (List.length a.2 - y0)∧((lxs [.ag [.bool a.1, .hs .no Zak a.2], .ag [.bool b.1, .hs .no Zak b.2], .c (.bp 0 0), .c (.bp 1 0)] (True∧vI (w64 ((y0:Int) + 1)) y0'∧lxs [.c (.bp 0 0), .c (.bool a.1), .c (.bp 1 0), .c (.bool b.1), .c (.bool (!eqO a.1 b.1)), .c (.bool false), .c (.bp 0 1),hn Zak a.2,ci (List.length a.2), .c (.bp 1 1),hn Zak b.2,ci (List.length b.2), .c (.bool (neI (List.length a.2) (List.length b.2))), .c (.bool false)] (TN 51 True)))∧pt (lb (.box [.bool a.1, .hs .no Zak a.2])∧lb (.box [.bool b.1, .hs .no Zak b.2])∧True))))))))))))))))))))))))) else (True∧(rB true (Za5 a b)))))))))))))) (by kernel_rfl) ?_
  unfold Zrn Zrm T2 T3 T4 T5 T7 T8
  simp only [SIA,eq_self]
  have hm0:List.length a.2≤maxLen:=hwf.1.2.1.1
  repeat' (first | apply And.intro | intro _)
  all_goals (first
    | trivial
    | omega
    | exact ⟨0,⟨Nat.zero_le _,ZaH⟩,rfl⟩
    | (refine ⟨_,⟨?_,ZaD (And.right (by assumption)) ?_⟩,?_,Zbj ?_⟩ <;> first | omega | (simp_all [Prod.ext_iff,EQA]; done))
    | exact (Zdp.2 (fun e=>by subst e; simp_all [EQA])).symm
    | exact (ZdH.2 (by have hx:=ZbE (t:=Zak) (xs:=a.2) (ys:=b.2) (show List.length a.2=List.length b.2 by omega) (fun j hj=>(by assumption:_≤List.length a.2∧∀ j,j < _→Zav a.2 j=Zav b.2 j).2 j (by have hj' : j < List.length a.2:=hj; omega)); simp_all [Prod.ext_iff,EQA])).symm
    | (rw [Bool.eq_iff_iff]; simp_all [Prod.ext_iff,EQA]; done)
    | (simp_all [Prod.ext_iff,EQA]; done))
def Zpl:Zat Tryz.prog:=⟨150,[.s ZcG, .s ZcG],fun x=>True,fun x=>.c (.bool (Za5 x.1 x.2.1)),fun _=>[],fun x hx=>Zpk x.1 x.2.1,Tryz.call150⟩
def Znj (a:Zac) (b:Zac):Prop:=(T4 (rB false (ZaQ a b)))
def Znk (a:Zac) (b:Zac):Prop:=(T6 (Znj a b))
def Znl (a:Zac) (b:Zac):Prop:=(T6 (Znk a b))
theorem Znm (a:Zac) (b:Zac):Zai Tryz.prog 72 [.ag (cellsOf Zag a), .ag (cellsOf Zag b)] (.c (.bool (ZaQ a b))) []:=by
  refine bc0 [ZlE,Zpl,Zrl] [] [] [] L0 Tryz.func72 (fun hwf=>?_)
  refine Eq.mpr (β:=(T7 (some TypeDesc.bool=some TypeDesc.bool∧(True∧(bif (eqO a.1 b.1) then (T7 (bif (eqI a.2.1 b.2.1) then (T7 (bif (eqI a.2.2.1 b.2.2.1) then (T7 (bif (eqI a.2.2.2.1 b.2.2.2.1) then (T4 ((pt True)∧(T2 (bif ZaS a.2.2.2.2.1 b.2.2.2.2.1 then (T4 ((pt True)∧(T2 (bif Za5 a.2.2.2.2.2.1 b.2.2.2.2.2.1 then (T7 (bif (eqS a.2.2.2.2.2.2.1 b.2.2.2.2.2.2.1) then (T7 (bif (eqS a.2.2.2.2.2.2.2.1 b.2.2.2.2.2.2.2.1) then (T4 ((pt True)∧(T2 (bif Zbf a.2.2.2.2.2.2.2.2.1 b.2.2.2.2.2.2.2.2.1 then (T4 (true=true∧(T2 (bif (ZAn a.2.2.2.2.2.2.2.2.2.1 b.2.2.2.2.2.2.2.2.2.1) then (T4 (true=true∧(T2 (bif (Zr4 a.2.2.2.2.2.2.2.2.2.2.1 b.2.2.2.2.2.2.2.2.2.2.1) then (T7 (rB (eqI a.2.2.2.2.2.2.2.2.2.2.2 b.2.2.2.2.2.2.2.2.2.2.2) (ZaQ a b))) else (T2 (rB false (ZaQ a b))))))) else (Znj a b))))) else (T2 (Znj a b)))))) else (T4 (Znj a b)))) else (Znk a b))) else (T2 (Znk a b)))))) else (T4 (Znk a b)))))) else (Znl a b))) else (T2 (Znl a b)))) else (T4 (Znl a b)))) else (T6 (Znl a b))))))) (by kernel_rfl) ?_
  unfold Znl Znk Znj T2 T4 T6 T7
  exact Zdo
def Ze7:Zat Tryz.prog:=⟨72,[.s Zag, .s Zag],fun x=>True,fun x=>.c (.bool (ZaQ x.1 x.2.1)),fun _=>[],fun x hx=>Znm x.1 x.2.1,Tryz.call72⟩
theorem Zyf (a:Zaw) (b:Zaw):Zai Tryz.prog 170 [.ag (cellsOf Zaf a), .ag (cellsOf Zaf b)] (.c (.bool (ZbF a b))) []:=by
  refine bc0 [ZfK] [] [] [] L0 Tryz.func170 (fun hwf=>?_)
  refine Eq.mpr (β:=(T9 (bif (eqS a.1 b.1) then (T7 (bif (eqI a.2.1 b.2.1) then (T7 (bif (eqI a.2.2.1 b.2.2.1) then (T4 ((pt True)∧(T2 (rB (ZcX a.2.2.2 b.2.2.2) (ZbF a b))))) else (T2 (rB false (ZbF a b))))) else (T4 (rB false (ZbF a b))))) else (T6 (rB false (ZbF a b)))))) (by kernel_rfl) ?_
  exact Zdo
def Zyg:Zat Tryz.prog:=⟨170,[.s Zaf, .s Zaf],fun x=>True,fun x=>.c (.bool (ZbF x.1 x.2.1)),fun _=>[],fun x hx=>Zyf x.1 x.2.1,Tryz.call170⟩
theorem Zs9 {xs ys:List Zaw}:ZiV (fun x y:Zaw=>ZbF x y) xs ys=true↔xs=ys:=Zyb (fun _ _=>Zel)
theorem Zro (a:List Zaw) (b:List Zaw):Zai Tryz.prog 90 [.c (.hs .no Zaf a), .c (.hs .no Zaf b)] (.c (.bool (Zbq a b))) []:=by
  refine bc0 [Zyg] [] [ZcL] [] L0 Tryz.func90 (fun hwf=>?_)
  refine Eq.mpr (β:=(T3 (((∀ z0 w0:Zaw,True∧True)∧∀ (_:Zaw→Zaw→Bool) (_ _:List Zaw),true=true)∧(True∧(rB (ZiV (fun z0 w0:Zaw=>ZbF z0 w0) a b) (Zbq a b)))))) (by kernel_rfl) ?_
  simp only [SIA,eq_self]
  refine ⟨⟨fun _ _=>trivial,fun _ _ _=>trivial⟩,?_⟩
  rw [Bool.eq_iff_iff,Zs9,Zcl]
def Zrp:Zat Tryz.prog:=⟨90,[.v (.list Zaf), .v (.list Zaf)],fun x=>True,fun x=>.c (.bool (Zbq x.1 x.2.1)),fun _=>[],fun x hx=>Zro x.1 x.2.1,Tryz.call90⟩
def Zyh (a:Zaw) (b:Zaw):Nat→List AV→Mem→Za3
  | 4,tm,M=>⟨Nat,fun y=>(Zb2 (Zcx tm [(4, .any),(5, .c (.int .i64 ((y:Nat):Int)))]) 34 18,M),fun y=>(y≤List.length a.2.2.2∧∀ j,j < y→Zay a.2.2.2 j=Zay b.2.2.2 j),fun y=>(List.length a.2.2.2 - y)⟩
  | _,_,_=>⟨Unit,fun _=>([],[]),fun _=>False,fun _=>0⟩
def Zyi (a:Zaw) (b:Zaw):Prop:=(lb (.box [.str a.1, .int .i64 a.2.1, .int .i64 a.2.2.1, .hs .no ZaF a.2.2.2])∧lb (.box [.str b.1, .int .i64 b.2.1, .int .i64 b.2.2.1, .hs .no ZaF b.2.2.2])∧True)
theorem Zyj (a:Zaw) (b:Zaw):Zai Tryz.prog 149 [.ag (cellsOf Zaf a), .ag (cellsOf Zaf b)] (.c (.bool (ZbF a b))) []:=by
  refine bc0 [] [] [] [] (Zyh a b) Tryz.func149 (fun hwf=>?_)
  refine Eq.mpr (β:=(T9 (bif (!eqS a.1 b.1) then (T6 (rB false (ZbF a b))) else (T7 (bif (neI a.2.1 b.2.1) then (T4 (rB false (ZbF a b))) else (T7 (bif (neI a.2.2.1 b.2.2.1) then (T2 (rB false (ZbF a b))) else (T8 (bif (neI (List.length a.2.2.2) (List.length b.2.2.2)) then (True∧(rB false (ZbF a b))) else (True∧((∃ q:Nat,(q≤List.length a.2.2.2∧∀ j,j < q→Zay a.2.2.2 j=Zay b.2.2.2 j)∧((lxs [.ag [.str a.1, .int .i64 a.2.1, .int .i64 a.2.2.1, .hs .no ZaF a.2.2.2], .ag [.str b.1, .int .i64 b.2.1, .int .i64 b.2.2.1, .hs .no ZaF b.2.2.2], .c (.bp 0 0), .c (.bp 1 0)] (True∧vI 0 q∧lxs [.c (.bp 0 0), .c (.str a.1), .c (.bp 1 0), .c (.str b.1), .c (.bool (!eqS a.1 b.1)), .c (.bool false), .c (.bp 0 1),ci a.2.1, .c (.bp 1 1),ci b.2.1, .c (.bool (neI a.2.1 b.2.1)), .c (.bool (neI a.2.1 b.2.1)), .c (.bool false), .c (.bp 0 2),ci a.2.2.1, .c (.bp 1 2),ci b.2.2.1, .c (.bool (neI a.2.2.1 b.2.2.1)), .c (.bool (neI a.2.2.1 b.2.2.1)), .c (.bool false), .c (.bp 0 3),hn ZaF a.2.2.2,ci (List.length a.2.2.2), .c (.bp 1 3),hn ZaF b.2.2.2,ci (List.length b.2.2.2), .c (.bool (neI (List.length a.2.2.2) (List.length b.2.2.2))), .c (.bool false)] (TN 18 True)))∧pt (Zyi a b)))∧∀ y0:Nat,(y0≤List.length a.2.2.2∧∀ j,j < y0→Zay a.2.2.2 j=Zay b.2.2.2 j)→(T5 (bif (ltI y0 (List.length a.2.2.2)) then ((pt (true=true))∧(T3 ((ix 3 y0 (List.length a.2.2.2))∧(T4 ((ix 3 y0 (List.length b.2.2.2))∧(True∧(true=true∧(bif (!(Zr3 (Zay a.2.2.2 y0) (Zay b.2.2.2 y0))) then (True∧(rB false (ZbF a b))) else (T3 (∃ y0' : Nat,(y0'≤List.length a.2.2.2∧∀ j,j < y0'→Zay a.2.2.2 j=Zay b.2.2.2 j)∧(List.length a.2.2.2 - y0') < (List.length a.2.2.2 - y0)∧((lxs [.ag [.str a.1, .int .i64 a.2.1, .int .i64 a.2.2.1, .hs .no ZaF a.2.2.2], .ag [.str b.1, .int .i64 b.2.1, .int .i64 b.2.2.1, .hs .no ZaF b.2.2.2], .c (.bp 0 0), .c (.bp 1 0)] (True∧vI (w64 ((y0:Int) + 1)) y0'∧lxs [.c (.bp 0 0), .c (.str a.1), .c (.bp 1 0), .c (.str b.1), .c (.bool (!eqS a.1 b.1)), .c (.bool false), .c (.bp 0 1),ci a.2.1, .c (.bp 1 1),ci b.2.1, .c (.bool (neI a.2.1 b.2.1)), .c (.bool (neI a.2.1 b.2.1)), .c (.bool false), .c (.bp 0 2),ci a.2.2.1, .c (.bp 1 2),ci b.2.2.1, .c (.bool (neI a.2.2.1 b.2.2.1)), .c (.bool (neI a.2.2.1 b.2.2.1)), .c (.bool false), .c (.bp 0 3),hn ZaF a.2.2.2,ci (List.length a.2.2.2), .c (.bp 1 3),hn ZaF b.2.2.2,ci (List.length b.2.2.2), .c (.bool (neI (List.length a.2.2.2) (List.length b.2.2.2))), .c (.bool false)] (TN 18 True)))∧pt (Zyi a b)))))))))))) else (True∧(rB true (ZbF a b)))))))))))))))) (by kernel_rfl) ?_
  unfold Zyi T2 T3 T4 T5 T6 T7 T8 T9
  simp only [SIA,eq_self]
  have hm:List.length a.2.2.2≤maxLen:=hwf.1.2.2.2.1.1
  refine ⟨fun h1=>?_,fun h1=>⟨fun h2=>?_,fun h2=>⟨fun h3=>?_,fun h3=>⟨fun h4=>?_,fun h4=>⟨⟨0,⟨Nat.zero_le _,ZaH⟩,rfl⟩,fun k hk=>⟨fun hlt=>⟨by omega,by omega,fun hp=>?_,fun hp=>?_⟩,fun hge=>?_⟩⟩⟩⟩⟩⟩
  · exact (ZbZ.2 (fun e=>h1 (by rw [e]))).symm
  · exact (ZbZ.2 (fun e=>h2 (by rw [e]))).symm
  · exact (ZbZ.2 (fun e=>h3 (by rw [e]))).symm
  · exact (ZbZ.2 (fun e=>h4 (by rw [e]))).symm
  · exact (ZbZ.2 (fun e=>ZeU.1 hp (by rw [e]))).symm
  · exact Zwe
  · obtain rfl:k=List.length a.2.2.2:=by omega
    have hl' : List.length a.2.2.2=List.length b.2.2.2:=by omega
    have hx:=ZbE (t:=ZaF) hl' hk.2
    exact (Zel.2 (Prod.ext h1 (Prod.ext h2 (Prod.ext h3 hx)))).symm
def Zyk:Zat Tryz.prog:=⟨149,[.s Zaf, .s Zaf],fun x=>True,fun x=>.c (.bool (ZbF x.1 x.2.1)),fun _=>[],fun x hx=>Zyj x.1 x.2.1,Tryz.call149⟩
def Zrq (a:List Zaw) (b:List Zaw):Nat→List AV→Mem→Za3
  | 4,tm,M=>⟨Nat,fun y=>(Zb2 (Zcx tm [(4, .any),(5, .c (.int .i64 ((y:Nat):Int)))]) 11 16,M),fun y=>(y≤List.length a∧∀ j,j < y→Zaa a j=Zaa b j),fun y=>(List.length a - y)⟩
  | _,_,_=>⟨Unit,fun _=>([],[]),fun _=>False,fun _=>0⟩
theorem Zrr (a:List Zaw) (b:List Zaw):Zai Tryz.prog 70 [.c (.hs .no Zaf a), .c (.hs .no Zaf b)] (.c (.bool (Zbq a b))) []:=by
  refine bc0 [Zyk] [] [] [] (Zrq a b) Tryz.func70 (fun hwf=>?_)
  refine Eq.mpr (β:=(T6 (bif (neI (List.length a) (List.length b)) then (True∧(rB false (Zbq a b))) else (True∧((∃ q:Nat,(q≤List.length a∧∀ j,j < q→Zaa a j=Zaa b j)∧((lxs [hn Zaf a,hn Zaf b, .tp [], .tp []] (True∧vI 0 q∧lxs [hn Zaf a,ci (List.length a),hn Zaf b,ci (List.length b), .c (.bool false)] (TN 16 True)))∧pt (True)))∧∀ y0:Nat,(y0≤List.length a∧∀ j,j < y0→Zaa a j=Zaa b j)→(T4 (bif (ltI y0 (List.length a)) then ((pt (true=true))∧(T2 ((ix 4 y0 (List.length a))∧(T3 ((ix 4 y0 (List.length b))∧(True∧((pt True)∧(True∧(bif (!(ZbF (Zaa a y0) (Zaa b y0))) then (True∧(rB false (Zbq a b))) else (T3 (∃ y0' : Nat,(y0'≤List.length a∧∀ j,j < y0'→Zaa a j=Zaa b j)∧(List.length a - y0') < (List.length a - y0)∧((lxs [hn Zaf a,hn Zaf b, .tp [], .tp []] (True∧vI (w64 ((y0:Int) + 1)) y0'∧lxs [hn Zaf a,ci (List.length a),hn Zaf b,ci (List.length b), .c (.bool false)] (TN 16 True)))∧pt (True))))))))))))) else (True∧(rB true (Zbq a b)))))))))) (by kernel_rfl) ?_
  unfold T2 T3 T4 T6
  simp only [SIA,eq_self]
  have hm:List.length a≤maxLen:=hwf.1.1
  refine ⟨fun h1=>?_,fun h1=>⟨⟨0,⟨Nat.zero_le _,ZaH⟩,rfl⟩,fun k hk=>⟨fun hlt=>⟨by omega,by omega,fun hp=>?_,fun hp=>?_⟩,fun hge=>?_⟩⟩⟩
  · exact (eqT_LBox_false.2 (fun e=>h1 (by rw [e]))).symm
  · exact (eqT_LBox_false.2 (fun e=>ZbZ.1 hp (by rw [e]))).symm
  · exact ⟨k + 1,⟨by omega,ZaD hk.2 (Zel.1 hp)⟩,by omega,Zbj (by omega)⟩
  · obtain rfl:k=List.length a:=by omega
    have hl' : List.length a=List.length b:=by omega
    have hx:=ZbE (t:=Zaf) hl' hk.2
    exact (Zcl.2 (hx)).symm
def Zrs:Zat Tryz.prog:=⟨70,[.v (.list Zaf), .v (.list Zaf)],fun x=>True,fun x=>.c (.bool (Zbq x.1 x.2.1)),fun _=>[],fun x hx=>Zrr x.1 x.2.1,Tryz.call70⟩
end Go.Proofs.YtkompmgleojmlaaGreat
