import Derived.Test.YtkompmgleojmlaaGreatFBlCom
import Derived.Test.YtkompmgleojmlaaGreatFBlDel
import Derived.Test.YtkompmgleojmlaaGreatFBlSort
import Derived.Test.YtkompmgleojmlaaGreatFBxPerf
set_option linter.unusedSimpArgs false
set_option linter.unusedVariables false
set_option maxRecDepth 100000
set_option maxHeartbeats 4000000
namespace Go.Proofs.YtkompmgleojmlaaGreat
open Go.ChangeShapes Go.WideShapes Go.ChangeAt Go.RowKit Go.Joins Go.Deep
open GoRep (rep bulk)
def Zro (l:List ZaM) (m:Zax):Prop:=(ix 4 (boxW l m.2.1) (List.length l))
def Zxs (l:List ZaM) (m:Zax):Prop:=((pt (true=true))∧(T2 ((Zro l m)∧(T3 ((pt True)∧(T2 (rB (geI (ZbH (Zab l (Int.toNat (boxW l m.2.1))).2.2.2 m.2.2.1) 0) (Zh8 l m))))))))
theorem Zrp (l:List ZaM) (m:Zax):Zat Tryz.prog 230 [.c (.hs .no Zak l), .ag (cellsOf Zah m)] (.c (.bool (Zh8 l m))) []:=by
  refine bc0 [Zkh,Zts,ZnF] [] [] [] L0 Tryz.func230 (fun hwf=>?_)
  refine Eq.mpr (β:=(T5 ((pt True)∧(T4 (bif (eqI m.1 1) then (T4 (bif (ltI (List.length l) 4) then (T4 (bif (ltI (boxW l m.2.1) 0) then (T3 ((pt True)∧(T3 (rB (ltI (ZhO l m.2.2.2.2.1) 0) (Zh8 l m))))) else (T2 (rB false (Zh8 l m))))) else (T4 (rB false (Zh8 l m))))) else (T2 (bif (ltI (boxW l m.2.1) 0) then (True∧(rB false (Zh8 l m))) else (T4 (bif (eqI m.1 3) then (T3 ((pt True)∧(T2 (rB (ltI (ZhO l m.2.2.2.2.1) 0) (Zh8 l m))))) else (T2 (bif (eqI m.1 4) then ((pt (true=true))∧(T4 ((Zro l m)∧(T4 (bif (eqI m.2.2.1 (Zab l (Int.toNat (boxW l m.2.1))).2.2.1) then (T2 ((Zro l m)∧(T6 (rB (ltI (List.length (Zab l (Int.toNat (boxW l m.2.1))).2.2.2) 6) (Zh8 l m))))) else (T2 (rB false (Zh8 l m)))))))) else (T2 (bif (eqI m.1 5) then (Zxs l m) else (T2 (bif (eqI m.1 6) then (Zxs l m) else (True∧(rB true (Zh8 l m)))))))))))))))))) (by kernel_rfl) ?_
  unfold Zxs Zro T2 T3 T4 T5 T6
  exact ZvR
def Zrq:ZaI Tryz.prog:=⟨230,[.v (.list Zak), .s Zah],fun x=>True,fun x=>.c (.bool (Zh8 x.1 x.2.1)),fun _=>[],fun x hx=>Zrp x.1 x.2.1,Tryz.call230⟩
theorem Zxt (l:List ZaM) (m:Zax):Zat Tryz.prog 167 [.c (.hs .no Zak l), .ag (cellsOf Zah m)] (.c (.bool (Ze3 l m))) []:=by
  refine bc0 [ZxL,Zti,Zrq] [] [] [] L0 Tryz.func167 (fun hwf=>?_)
  refine Eq.mpr (β:=(T3 ((pt True)∧(True∧(bif ZcJ l then (True∧((pt True)∧(T2 (bif Zbm m then (T2 ((pt True)∧(T2 (rB (Zh8 l m) (Ze3 l m))))) else (T2 (rB false (Ze3 l m))))))) else (T4 (rB false (Ze3 l m)))))))) (by kernel_rfl) ?_
  simp only [Zbw,ZbG,Zbf,Bool.not_true,Bool.not_false,Zd0,eq_self]
  repeat' (first | apply And.intro | intro _)
  all_goals first
    | (simp_all [Ze3]; done)
def Zxu:ZaI Tryz.prog:=⟨167,[.v (.list Zak), .s Zah],fun x=>True,fun x=>.c (.bool (Ze3 x.1 x.2.1)),fun _=>[],fun x hx=>Zxt x.1 x.2.1,Tryz.call167⟩
def Zrr (l:List ZaM) (m:Zax):Prop:=(ix 4 (boxW l m.2.1) (List.length l))
def Zxv (l:List ZaM) (m:Zax):Prop:=((pt (true=true))∧(T2 ((Zrr l m)∧(T3 ((pt True)∧(T2 (rB (geI (ZbH (Zab l (Int.toNat (boxW l m.2.1))).2.2.2 m.2.2.1) 0) (Ze3 l m))))))))
theorem Znt (l:List ZaM) (m:Zax):Zat Tryz.prog 217 [.c (.hs .no Zak l), .ag (cellsOf Zah m)] (.c (.bool (Ze3 l m))) []:=by
  refine bc0 [ZxP,Ztk,Zkj,Ztv,ZnH] [] [] [] L0 Tryz.func217 (fun hwf=>?_)
  refine Eq.mpr (β:=(T3 ((pt True)∧(T2 (bif (!(ZcJ l)) then (T2 (rB false (Ze3 l m))) else (True∧((pt True)∧(T2 (bif (!(Zbm m)) then (True∧(rB false (Ze3 l m))) else (T3 ((pt True)∧(T4 ((pt True)∧(T5 (bif (eqI m.1 1) then (T4 (bif (ltI (List.length l) 4) then (T4 (bif (ltI (boxW l m.2.1) 0) then (T4 (rB (!(geI (ZhO l m.2.2.2.2.1) 0)) (Ze3 l m))) else (T2 (rB false (Ze3 l m))))) else (T4 (rB false (Ze3 l m))))) else (T2 (bif (ltI (boxW l m.2.1) 0) then (True∧(rB false (Ze3 l m))) else (T4 (bif (eqI m.1 3) then (T3 (rB (!(geI (ZhO l m.2.2.2.2.1) 0)) (Ze3 l m))) else (T2 (bif (eqI m.1 4) then ((pt (true=true))∧(T2 ((Zrr l m)∧(T6 (bif (eqI (Zab l (Int.toNat (boxW l m.2.1))).2.2.1 m.2.2.1) then (T2 ((Zrr l m)∧(T6 (rB (ltI (List.length (Zab l (Int.toNat (boxW l m.2.1))).2.2.2) 6) (Ze3 l m))))) else (T2 (rB false (Ze3 l m)))))))) else (T2 (bif (eqI m.1 5) then (Zxv l m) else (T2 (bif (eqI m.1 6) then (Zxv l m) else (True∧(rB true (Ze3 l m)))))))))))))))))))))))))))) (by kernel_rfl) ?_
  unfold Zxv Zrr T2 T3 T4 T5 T6
  exact ZvR
def Zxw:ZaI Tryz.prog:=⟨217,[.v (.list Zak), .s Zah],fun x=>True,fun x=>.c (.bool (Ze3 x.1 x.2.1)),fun _=>[],fun x hx=>Znt x.1 x.2.1,Tryz.call217⟩
theorem Zxx (b:ZaM) (hpre:List.length b.2.2.2≤1048576):Zat Tryz.prog 227 [.ag (cellsOf Zak b)] (.ag [.str b.1, .int .i64 b.2.1, .int .i64 b.2.2.1, .row 0 0]) [.row ZaT b.2.2.2 0 0 none]:=by
  refine bc0 [Zgt] [] [] [] L0 Tryz.func227 (fun hwf=>?_)
  refine Eq.mpr (β:=(T4 ((pt (List.length b.2.2.2≤rowMax))∧(T4 (pt (((cS b.1 b.1)∧(cI b.2.1 b.2.1)∧(cI b.2.2.1 b.2.2.1)∧(b.2.2.2=b.2.2.2)∧True))))))) (by kernel_rfl) ?_
  exact Zv7
def Zxy:ZaI Tryz.prog:=⟨227,[.s Zak],fun x=>List.length x.1.2.2.2≤1048576,fun x=>.ag [.str x.1.1, .int .i64 x.1.2.1, .int .i64 x.1.2.2.1, .row 0 0],fun x=>[.row ZaT x.1.2.2.2 0 0 none],fun x hx=>Zxx x.1 hx,Tryz.call227⟩
theorem ZBb (b:ZaM) (hpre:List.length b.2.2.2≤1048576):Zat Tryz.prog 216 [.ag (cellsOf Zak b)] (.ag [.str b.1, .int .i64 b.2.1, .int .i64 b.2.2.1, .row 0 0]) [.row ZaT b.2.2.2 0 0 none]:=by
  refine bc0 [] [] [] [] L0 Tryz.func216 (fun hwf=>?_)
  refine Eq.mpr (β:=(T5 ((True∧List.length ([]:List ZcU) + List.length b.2.2.2≤rowMax)∧(T4 (pt (((cS b.1 b.1)∧(cI b.2.1 b.2.1)∧(cI b.2.2.1 b.2.2.1)∧((([]:List ZcU) ++ b.2.2.2)=b.2.2.2)∧True))))))) (by kernel_rfl) ?_
  exact Zv7
def ZBc:ZaI Tryz.prog:=⟨216,[.s Zak],fun x=>List.length x.1.2.2.2≤1048576,fun x=>.ag [.str x.1.1, .int .i64 x.1.2.1, .int .i64 x.1.2.2.1, .row 0 0],fun x=>[.row ZaT x.1.2.2.2 0 0 none],fun x hx=>ZBb x.1 hx,Tryz.call216⟩
def Zrs (l:List ZaM):Nat→List AV→Mem→Zbn
  | 3,tm,M=>⟨Nat,fun y=>(ZcN (ZcV tm [(3, .c (.row 0 0)),(5, .any),(6, .any),(9, .c (.int .i64 ((y:Nat):Int)))]) 10 9,Zjs M [(0, .row Zak (List.take y l) 0 0 none)]),fun y=>(y≤List.length l),fun y=>(List.length l - y)⟩
  | _,_,_=>⟨Unit,fun _=>([],[]),fun _=>False,fun _=>0⟩
theorem Zrt (l:List ZaM) (hpre:ZbO l):Zat Tryz.prog 166 [.c (.hs .no Zak l)] (.c (.row 0 0)) [.row Zak l 0 0 none]:=by
  refine bc0 [Zxy] [] [] [] (Zrs l) Tryz.func166 (fun hwf=>?_)
  refine Eq.mpr (β:=(T6 ((∃ q:Nat,(q≤List.length l)∧((lxs [hn Zak l, .tp [], .c (.raw (.slice none 0 0)), .c (.row 0 0), .tp []] (True∧True∧lxs [hn Zak l,ci (List.length l)] (vI 0 q∧TN 9 (lxs [.tp []] True))))∧pt (leB (.row Zak ([]:List ZaM) 0 0 none) (.row Zak (List.take q l) 0 0 none)∧True)))∧∀ y0:Nat,(y0≤List.length l)→(True∧(bif (ltI y0 (List.length l)) then ((ix 4 y0 (List.length l))∧(T5 ((pt (List.length (Zab l y0).2.2.2≤1048576))∧(True∧((True∧List.length (List.take y0 l) + List.length ([(Zab l y0)])≤rowMax)∧(T3 (∃ y0' : Nat,(y0'≤List.length l)∧(List.length l - y0') < (List.length l - y0)∧((lxs [hn Zak l, .tp [], .c (.raw (.slice none 0 0)), .c (.row 0 0), .tp []] (True∧True∧lxs [hn Zak l,ci (List.length l)] (vI (w64 ((y0:Int) + 1)) y0'∧TN 9 (lxs [.tp []] True))))∧pt (leB (.row Zak (List.take y0 l ++ [(Zab l y0)]) 0 0 none) (.row Zak (List.take y0' l) 0 0 none)∧True))))))))) else (T2 (pt ((List.take y0 l)=l)))))))) (by kernel_rfl) ?_
  unfold T2 T3 T5 T6
  exact ZvN
def ZkJ:ZaI Tryz.prog:=⟨166,[.v (.list Zak)],fun x=>ZbO x.1,fun x=>.c (.row 0 0),fun x=>[.row Zak x.1 0 0 none],fun x hx=>Zrt x.1 hx,Tryz.call166⟩
def Zte (l:List ZaM):Nat→List AV→Mem→Zbn
  | 3,tm,M=>⟨Nat,fun y=>(ZcN (ZcV tm [(3, .c (.row 0 0)),(4, .c (.int .i64 ((y:Nat):Int)))]) 5 15,Zjs M [(0, .row Zak (List.take y l) 0 0 none)]),fun y=>(y≤List.length l),fun y=>(List.length l - y)⟩
  | _,_,_=>⟨Unit,fun _=>([],[]),fun _=>False,fun _=>0⟩
theorem Zmm (l:List ZaM) (hpre:ZbO l):Zat Tryz.prog 147 [.c (.hs .no Zak l)] (.c (.row 0 0)) [.row Zak l 0 0 none]:=by
  refine bc0 [ZBc] [] [] [] (Zte l) Tryz.func147 (fun hwf=>?_)
  refine Eq.mpr (β:=(T4 ((∃ q:Nat,(q≤List.length l)∧((lxs [hn Zak l, .tp [], .c (.raw (.slice none 0 0)), .c (.row 0 0)] (vI 0 q∧TN 15 (lxs [.tp []] True)))∧pt (leB (.row Zak ([]:List ZaM) 0 0 none) (.row Zak (List.take q l) 0 0 none)∧True)))∧∀ y0:Nat,(y0≤List.length l)→(T4 (bif (ltI y0 (List.length l)) then (T3 ((ix 4 y0 (List.length l))∧(True∧((pt (List.length (Zab l y0).2.2.2≤1048576))∧(True∧((True∧List.length (List.take y0 l) + List.length ([(Zab l y0)])≤rowMax)∧(T4 (∃ y0' : Nat,(y0'≤List.length l)∧(List.length l - y0') < (List.length l - y0)∧((lxs [hn Zak l, .tp [], .c (.raw (.slice none 0 0)), .c (.row 0 0)] (vI (w64 ((y0:Int) + 1)) y0'∧TN 15 (lxs [.tp []] True)))∧pt (leB (.row Zak (List.take y0 l ++ [(Zab l y0)]) 0 0 none) (.row Zak (List.take y0' l) 0 0 none)∧True)))))))))) else (T2 (pt ((List.take y0 l)=l)))))))) (by kernel_rfl) ?_
  unfold T2 T3 T4
  exact ZvN
def Ziw:ZaI Tryz.prog:=⟨147,[.v (.list Zak)],fun x=>ZbO x.1,fun x=>.c (.row 0 0),fun x=>[.row Zak x.1 0 0 none],fun x hx=>Zmm x.1 hx,Tryz.call147⟩
def ZhI (l:List ZaM) (m:Zax):Prop:=(ix 4 (boxW l m.2.1) (List.length l))
def Zru (r0:List ZaM) (l:List ZaM) (m:Zax):Prop:=(True∧((pt (ZHE r0∧((r0=r0)∧((True))∧True)))∧∀ r1:List ZaM,r1=ZhD r0→(T2 (pt (((([]:List ZaM)=[])∧True)∧(r1=(Zec l m)))))))
def Zxz (l:List ZaM) (m:Zax):Prop:=(ix 4 (boxW l m.2.1) (List.length (List.set l (Int.toNat (boxW l m.2.1)) ((Zab l (Int.toNat (boxW l m.2.1))).1,((Zab l (Int.toNat (boxW l m.2.1))).2.1,((Zab l (Int.toNat (boxW l m.2.1))).2.2.1,((Zab l (Int.toNat (boxW l m.2.1))).2.2.2 ++ [(m.2.2.1,(m.2.2.2.1,m.2.2.2.2.2))])))))))
theorem ZxA (l:List ZaM) (m:Zax) (hpre:Ze3 l m=true):Zc0 Tryz.prog 168 (ZcX 0 [(.g false (.list Zak)),(.a (.s Zah))] (l,m,())) (Zga 0 [(.g false (.list Zak)),(.a (.s Zah))] (l,m,())) (ZdF 0 [(.g false (.list Zak)),(.a (.s Zah))] (l,m,()) ++ [.row Zak (Zec l m) 0 0 none]) (inpM 0 [(.g false (.list Zak)),(.a (.s Zah))]) (.c (.row 1 0)):=by
  refine Zb1 (T:=⟨[Zkh,ZnF],[],[],[ZiG,Zke,Zkg],none,fun _=>[],1,[],[]⟩) (L:=L0) Tryz.func168 rfl rfl rfl (by kernel_rfl) (fun hwf hwm=>?_)
  refine Eq.mpr (β:=(T5 ((True∧pt (true=true))∧(T5 (bif (eqI m.1 1) then (T7 ((True∧List.length l + List.length ([(m.2.2.2.2.1,(m.2.1,(1,([]:List ZcU))))])≤rowMax)∧(T2 ((pt (ZHE (l ++ [(m.2.2.2.2.1,(m.2.1,(1,([]:List ZcU))))])∧(((l ++ [(m.2.2.2.2.1,(m.2.1,(1,([]:List ZcU))))])=(l ++ [(m.2.2.2.2.1,(m.2.1,(1,([]:List ZcU))))]))∧((True))∧True)))∧∀ r0:List ZaM,r0=ZhD (l ++ [(m.2.2.2.2.1,(m.2.1,(1,([]:List ZcU))))])→(T2 (pt (((([]:List ZaM)=[])∧True)∧(r0=(Zec l m))))))))) else (T2 (bif (eqI m.1 2) then (T4 ((pt (ZIx l (boxW l m.2.1) (w64 (boxW l m.2.1 + 1))∧((l=l)∧True)))∧∀ r0:List ZaM,r0=([]:List ZaM)→(T2 ((pt (ZHE (Zmi l (Int.toNat (boxW l m.2.1)))∧(((Zmi l (Int.toNat (boxW l m.2.1)))=(Zmi l (Int.toNat (boxW l m.2.1))))∧((True))∧True)))∧∀ r1:List ZaM,r1=ZhD (Zmi l (Int.toNat (boxW l m.2.1)))→(T2 (pt (((([]:List ZaM)=[])∧True)∧(r1=(Zec l m))))))))) else (T2 (bif (eqI m.1 3) then (T4 ((ZhI l m)∧(T2 (∀ r0:List ZaM,r0=(List.set l (Int.toNat (boxW l m.2.1)) (m.2.2.2.2.1,(Zab l (Int.toNat (boxW l m.2.1))).2))→(Zru r0 l m))))) else (T2 (bif (eqI m.1 4) then ((pt (true=true))∧(T4 ((ZhI l m)∧(T10 ((True∧List.length (Zab l (Int.toNat (boxW l m.2.1))).2.2.2 + List.length ([(m.2.2.1,(m.2.2.2.1,m.2.2.2.2.2))])≤rowMax)∧((ZhI l m)∧(True∧(((Int.toNat (boxW l m.2.1)):Nat)=(Int.toNat (boxW l m.2.1))∧(T2 ((Zxz l m)∧(T3 ((Zxz l m)∧(T2 (∀ r0:List ZaM,r0=(List.set (List.set l (Int.toNat (boxW l m.2.1)) ((Zab l (Int.toNat (boxW l m.2.1))).1,((Zab l (Int.toNat (boxW l m.2.1))).2.1,((Zab l (Int.toNat (boxW l m.2.1))).2.2.1,((Zab l (Int.toNat (boxW l m.2.1))).2.2.2 ++ [(m.2.2.1,(m.2.2.2.1,m.2.2.2.2.2))]))))) (Int.toNat (boxW l m.2.1)) ((Zab (List.set l (Int.toNat (boxW l m.2.1)) ((Zab l (Int.toNat (boxW l m.2.1))).1,((Zab l (Int.toNat (boxW l m.2.1))).2.1,((Zab l (Int.toNat (boxW l m.2.1))).2.2.1,((Zab l (Int.toNat (boxW l m.2.1))).2.2.2 ++ [(m.2.2.1,(m.2.2.2.1,m.2.2.2.2.2))]))))) (Int.toNat (boxW l m.2.1))).1,((Zab (List.set l (Int.toNat (boxW l m.2.1)) ((Zab l (Int.toNat (boxW l m.2.1))).1,((Zab l (Int.toNat (boxW l m.2.1))).2.1,((Zab l (Int.toNat (boxW l m.2.1))).2.2.1,((Zab l (Int.toNat (boxW l m.2.1))).2.2.2 ++ [(m.2.2.1,(m.2.2.2.1,m.2.2.2.2.2))]))))) (Int.toNat (boxW l m.2.1))).2.1,((w64 ((Zab (List.set l (Int.toNat (boxW l m.2.1)) ((Zab l (Int.toNat (boxW l m.2.1))).1,((Zab l (Int.toNat (boxW l m.2.1))).2.1,((Zab l (Int.toNat (boxW l m.2.1))).2.2.1,((Zab l (Int.toNat (boxW l m.2.1))).2.2.2 ++ [(m.2.2.1,(m.2.2.2.1,m.2.2.2.2.2))]))))) (Int.toNat (boxW l m.2.1))).2.2.1 + 1)),(Zab (List.set l (Int.toNat (boxW l m.2.1)) ((Zab l (Int.toNat (boxW l m.2.1))).1,((Zab l (Int.toNat (boxW l m.2.1))).2.1,((Zab l (Int.toNat (boxW l m.2.1))).2.2.1,((Zab l (Int.toNat (boxW l m.2.1))).2.2.2 ++ [(m.2.2.1,(m.2.2.2.1,m.2.2.2.2.2))]))))) (Int.toNat (boxW l m.2.1))).2.2.2))))→(Zru r0 l m))))))))))))))) else (T2 (bif (eqI m.1 5) then ((pt (true=true))∧(T2 ((ZhI l m)∧(T4 ((ZhI l m)∧(T5 ((True∧pt (true=true))∧((ix 3 (ZbH (Zab l (Int.toNat (boxW l m.2.1))).2.2.2 m.2.2.1) (List.length (Zab l (Int.toNat (boxW l m.2.1))).2.2.2))∧(T2 (∀ r0:List ZaM,r0=(List.set l (Int.toNat (boxW l m.2.1)) ((Zab l (Int.toNat (boxW l m.2.1))).1,((Zab l (Int.toNat (boxW l m.2.1))).2.1,((Zab l (Int.toNat (boxW l m.2.1))).2.2.1,(List.set (Zab l (Int.toNat (boxW l m.2.1))).2.2.2 (Int.toNat (ZbH (Zab l (Int.toNat (boxW l m.2.1))).2.2.2 m.2.2.1)) ((ZaL (Zab l (Int.toNat (boxW l m.2.1))).2.2.2 (Int.toNat (ZbH (Zab l (Int.toNat (boxW l m.2.1))).2.2.2 m.2.2.1))).1,(m.2.2.2.1,(ZaL (Zab l (Int.toNat (boxW l m.2.1))).2.2.2 (Int.toNat (ZbH (Zab l (Int.toNat (boxW l m.2.1))).2.2.2 m.2.2.1))).2.2)))))))→(Zru r0 l m))))))))))) else (T2 (bif (eqI m.1 6) then ((pt (true=true))∧(T2 ((ZhI l m)∧(T3 ((True∧pt (true=true))∧(T5 ((ZhI l m)∧(T5 ((pt (ZIy (Zab l (Int.toNat (boxW l m.2.1))).2.2.2 (ZbH (Zab l (Int.toNat (boxW l m.2.1))).2.2.2 m.2.2.1) (w64 (ZbH (Zab l (Int.toNat (boxW l m.2.1))).2.2.2 m.2.2.1 + 1))∧(((Zab l (Int.toNat (boxW l m.2.1))).2.2.2=(Zab l (Int.toNat (boxW l m.2.1))).2.2.2)∧True)))∧((ZhI l m)∧(True∧(((Int.toNat (boxW l m.2.1)):Nat)=(Int.toNat (boxW l m.2.1))∧(True∧((pt (ZHE (List.set l (Int.toNat (boxW l m.2.1)) ((Zab l (Int.toNat (boxW l m.2.1))).1,((Zab l (Int.toNat (boxW l m.2.1))).2.1,((Zab l (Int.toNat (boxW l m.2.1))).2.2.1,ZFs (Zab l (Int.toNat (boxW l m.2.1))).2.2.2 (Int.toNat (ZbH (Zab l (Int.toNat (boxW l m.2.1))).2.2.2 m.2.2.1))))))∧(((List.set l (Int.toNat (boxW l m.2.1)) ((Zab l (Int.toNat (boxW l m.2.1))).1,((Zab l (Int.toNat (boxW l m.2.1))).2.1,((Zab l (Int.toNat (boxW l m.2.1))).2.2.1,ZFs (Zab l (Int.toNat (boxW l m.2.1))).2.2.2 (Int.toNat (ZbH (Zab l (Int.toNat (boxW l m.2.1))).2.2.2 m.2.2.1))))))=(List.set l (Int.toNat (boxW l m.2.1)) ((Zab l (Int.toNat (boxW l m.2.1))).1,((Zab l (Int.toNat (boxW l m.2.1))).2.1,((Zab l (Int.toNat (boxW l m.2.1))).2.2.1,ZFs (Zab l (Int.toNat (boxW l m.2.1))).2.2.2 (Int.toNat (ZbH (Zab l (Int.toNat (boxW l m.2.1))).2.2.2 m.2.2.1)))))))∧((True))∧True)))∧∀ r0:List ZaM,r0=ZhD (List.set l (Int.toNat (boxW l m.2.1)) ((Zab l (Int.toNat (boxW l m.2.1))).1,((Zab l (Int.toNat (boxW l m.2.1))).2.1,((Zab l (Int.toNat (boxW l m.2.1))).2.2.1,ZFs (Zab l (Int.toNat (boxW l m.2.1))).2.2.2 (Int.toNat (ZbH (Zab l (Int.toNat (boxW l m.2.1))).2.2.2 m.2.2.1))))))→(T2 (pt (((([]:List ZaM)=[])∧True)∧(r0=(Zec l m))))))))))))))))))) else (True∧((pt (ZHE l∧((l=l)∧((True))∧True)))∧∀ r0:List ZaM,r0=ZhD l→(T2 (pt (((([]:List ZaM)=[])∧True)∧(r0=(Zec l m)))))))))))))))))))))) (by kernel_rfl) ?_
  unfold Zxz Zru ZhI T10 T2 T3 T4 T5 T7
  obtain ⟨hs,hl4,hbx,hcm,hft⟩:=ZhE hpre
  have hw:=Zpk l m.2.1
  have hm:=ZAX l m.2.2.2.2.1
  have hp:=Zvq (bxB l m).2.2.2 m.2.2.1
  have hc:=Ziz.1 hcm
  have hne:m.1 ≠ 1→0≤boxW l m.2.1:=fun h=>by
    exact Zwk
  have hk:m.1 ≠ 1→Int.toNat (boxW l m.2.1) < l.length:=fun h=>by have:=hne h; omega
  have hb6:m.1 ≠ 1→(bxB l m).2.2.2.length≤6∧(1≤(bxB l m).2.2.1∧(bxB l m).2.2.1≤999999999):=fun h=>by
    exact Zxc
  have hpm:m.1=5∨m.1=6→0≤ZbH (bxB l m).2.2.2 m.2.2.1:=fun h=>by
    exact Zwa
  have hwr:IntKind.wrap .i64 (boxW l m.2.1 + 1)=boxW l m.2.1 + 1:=ZaR (by omega) (by omega)
  have hwp:m.1 ≠ 1→IntKind.wrap .i64 (ZbH (bxB l m).2.2.2 m.2.2.1 + 1)=ZbH (bxB l m).2.2.2 m.2.2.1 + 1:=fun h=>by have:=hb6 h; exact ZaR (by omega) (by omega)
  have set_ok:∀ (v x:Int) (ms:List ZcU),ZHE (l.set (bxK l m) ((bxB l m).1,v,x,ms))∧ZhD (l.set (bxK l m) ((bxB l m).1,v,x,ms))=l.set (bxK l m) ((bxB l m).1,v,x,ms):=fun v x ms=>by
    have h1:srt (l.set (bxK l m) ((bxB l m).1,v,x,ms)):=ZH6 hs rfl
    refine ⟨⟨by rw [List.length_set]; omega,Znp h1 (List.Perm.refl _)⟩,ZAW h1⟩
  simp only [Zbw,ZbG,Zbf,Bool.not_true,Bool.not_false,Zd0,eq_self]
  refine ⟨fun h1=>?_,fun h1=>⟨fun h2=>?_,fun h2=>⟨fun h3=>?_,fun h3=>⟨fun h4=>?_,fun h4=>⟨fun h5=>?_,fun h5=>⟨fun h6=>?_,fun h6=>?_⟩⟩⟩⟩⟩⟩
  · have hf:=Zjd.1 hft
    have hn:=ZGR (b:=(m.2.2.2.2.1,m.2.1,1,[])) hs (Zvp (n:=m.2.2.2.2.1) (by omega))
    refine ⟨by unfold rowMax; simp; omega,⟨by simp; omega,hn.1⟩,fun r hr=>?_⟩
    rw [hr,hn.2]
    unfold Zec
    rw [if_pos h1]
  · refine ⟨⟨hne h1,by omega,hwr⟩,fun r0 _=>⟨⟨?_,Znp (ZzN hs _) (List.Perm.refl _)⟩,fun r1 hr=>?_⟩⟩
    · have:=(Zlv l (Int.toNat (boxW l m.2.1))).length_le
      omega
    · rw [hr,ZAW (ZzN hs _)]
      unfold Zec
      rw [if_neg h1,if_pos h2]
  · have hf:=Zjd.1 hft
    have hn:=ZGQ (b:=(m.2.2.2.2.1,(bxB l m).2)) hs (hk h1) (Zvp (n:=m.2.2.2.2.1) (by omega))
    refine ⟨⟨hne h1,hw.2⟩,fun r0 hr0=>?_⟩
    subst hr0
    refine ⟨⟨by rw [List.length_set]; omega,hn.1⟩,fun r1 hr=>?_⟩
    rw [hr,hn.2]
    unfold Zec
    rw [if_neg h1,if_neg h2,if_pos h3]
  · have e:∀ X:ZaM,Zab (l.set (Int.toNat (boxW l m.2.1)) X) (Int.toNat (boxW l m.2.1))=X:=fun X=>ZaB (t:=Zak) (hk h1)
    have h6:List.length (Zab l (Int.toNat (boxW l m.2.1))).2.2.2≤6∧1≤(Zab l (Int.toNat (boxW l m.2.1))).2.2.1∧(Zab l (Int.toNat (boxW l m.2.1))).2.2.1≤999999999:=hb6 h1
    simp only [e,List.set_set,List.length_set]
    rw [ZaR (by omega) (by omega)]
    refine ⟨⟨hne h1,hw.2⟩,by unfold rowMax; simp; omega,⟨hne h1,hw.2⟩,⟨hne h1,hw.2⟩,⟨hne h1,hw.2⟩,fun r0 hr0=>?_⟩
    subst hr0
    refine ⟨(set_ok _ _ _).1,fun r1 hr=>?_⟩
    rw [hr,(set_ok _ _ _).2]
    unfold Zec
    rw [if_neg h1,if_neg h2,if_neg h3,if_pos h4]
  · refine ⟨⟨hne h1,hw.2⟩,⟨hne h1,hw.2⟩,⟨hpm (.inl h5),hp.2⟩,fun r0 hr0=>?_⟩
    subst hr0
    refine ⟨(set_ok _ _ _).1,fun r1 hr=>?_⟩
    rw [hr,(set_ok _ _ _).2]
    exact Zxa
  · refine ⟨⟨hne h1,hw.2⟩,⟨hne h1,hw.2⟩,⟨hpm (.inr h6),hp.2,hwp h1⟩,⟨hne h1,hw.2⟩,(set_ok _ _ _).1,fun r1 hr=>?_⟩
    rw [hr,(set_ok _ _ _).2]
    unfold Zec
    rw [if_neg h1,if_neg h2,if_neg h3,if_neg h4,if_neg h5]
  · exfalso
    rcases hc.2 with h | h | h | h | h <;> omega
def ZxB:Zcd Tryz.prog:=⟨168,[(.g false (.list Zak)),(.a (.s Zah))],fun x=>Ze3 x.1 x.2.1=true,fun x=>(x.1,x.2.1,()),fun x=>.c (.row 1 0),fun x=>[.row Zak (Zec x.1 x.2.1) 0 0 none],fun x hx=>ZxA x.1 x.2.1 hx,Tryz.call168⟩
end Go.Proofs.YtkompmgleojmlaaGreat
