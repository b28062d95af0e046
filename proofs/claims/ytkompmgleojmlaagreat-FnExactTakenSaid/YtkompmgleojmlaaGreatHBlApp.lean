import Derived.Test.YtkompmgleojmlaaGreatHBlCom
import Derived.Test.YtkompmgleojmlaaGreatHBlDel
import Derived.Test.YtkompmgleojmlaaGreatHBlSort
import Derived.Test.YtkompmgleojmlaaGreatHBxPerf
set_option linter.unusedSimpArgs false
set_option linter.unusedVariables false
set_option maxRecDepth 100000
set_option maxHeartbeats 4000000
namespace Go.Proofs.YtkompmgleojmlaaGreat
open Go.ChangeShapes Go.WideShapes Go.ChangeAt Go.RowKit Go.Joins Go.Deep
open GoRep (rep bulk)
def ZtH (l:List ZaM) (m:Zax):Prop:=ix 4 (boxW l m.2.1) l.length
def ZA5 (l:List ZaM) (m:Zax):Prop:=pt (true=true)∧T2 (ZtH l m∧T3 (pt True∧T2 (rB (geI (Zb6 (Zab l (Int.toNat (boxW l m.2.1))).2.2.2 m.2.2.1) 0) (Zi0 l m))))
theorem ZtI (l:List ZaM) (m:Zax):Zam Tryz.prog 230 [.c (.hs .no Zaj l), .ag (cellsOf Zag m)] (.c (.bool (Zi0 l m))) []:=by
 refine bc0 [ZiD,Zwo,Zpg] [] [] [] L0 Tryz.func230 (fun hwf=>?_)
 refine Eq.mpr (β:=T5 (pt True∧T4 (bif eqI m.1 1 then T4 (bif ltI l.length 4 then T4 (bif ltI (boxW l m.2.1) 0 then T3 (pt True∧T3 (rB (ltI (ZiC l m.2.2.2.2.1) 0) (Zi0 l m))) else T2 (rB false (Zi0 l m))) else T4 (rB false (Zi0 l m))) else T2 (bif ltI (boxW l m.2.1) 0 then True∧rB false (Zi0 l m) else T4 (bif eqI m.1 3 then T3 (pt True∧T2 (rB (ltI (ZiC l m.2.2.2.2.1) 0) (Zi0 l m))) else T2 (bif eqI m.1 4 then pt (true=true)∧T4 (ZtH l m∧T4 (bif eqI m.2.2.1 (Zab l (Int.toNat (boxW l m.2.1))).2.2.1 then T2 (ZtH l m∧T6 (rB (ltI (List.length (Zab l (Int.toNat (boxW l m.2.1))).2.2.2) 6) (Zi0 l m))) else T2 (rB false (Zi0 l m)))) else T2 (bif eqI m.1 5 then ZA5 l m else T2 (bif eqI m.1 6 then ZA5 l m else True∧rB true (Zi0 l m))))))))) (by kernel_rfl) ?_
 unfold ZA5 ZtH T2 T3 T4 T5 T6
 exact Zy7
def ZtJ:ZaC Tryz.prog:=⟨230,[.v (.list Zaj), .s Zag],fun x=>True,fun x=>.c (.bool (Zi0 x.1 x.2.1)),fun _=>[],fun x hx=>ZtI x.1 x.2.1,Tryz.call230⟩
theorem ZA6 (l:List ZaM) (m:Zax):Zam Tryz.prog 167 [.c (.hs .no Zaj l), .ag (cellsOf Zag m)] (.c (.bool (ZfR l m))) []:=by
 refine bc0 [ZBo,Zwd,ZtJ] [] [] [] L0 Tryz.func167 (fun hwf=>?_)
 refine Eq.mpr (β:=T3 (pt True∧True∧bif Zdr l then True∧pt True∧T2 (bif ZbG m then T2 (pt True∧T2 (rB (Zi0 l m) (ZfR l m))) else T2 (rB false (ZfR l m))) else T4 (rB false (ZfR l m)))) (by kernel_rfl) ?_
 simp only [Zbe,Zbl,Zbt,Bool.not_true,Bool.not_false,Zdq,eq_self]
 repeat' (first | apply And.intro | intro _)
 all_goals first
  | (simp_all [ZfR]; done)
def ZA7:ZaC Tryz.prog:=⟨167,[.v (.list Zaj), .s Zag],fun x=>True,fun x=>.c (.bool (ZfR x.1 x.2.1)),fun _=>[],fun x hx=>ZA6 x.1 x.2.1,Tryz.call167⟩
def ZtK (l:List ZaM) (m:Zax):Prop:=ix 4 (boxW l m.2.1) l.length
def ZA8 (l:List ZaM) (m:Zax):Prop:=pt (true=true)∧T2 (ZtK l m∧T3 (pt True∧T2 (rB (geI (Zb6 (Zab l (Int.toNat (boxW l m.2.1))).2.2.2 m.2.2.1) 0) (ZfR l m))))
theorem Zo5 (l:List ZaM) (m:Zax):Zam Tryz.prog 217 [.c (.hs .no Zaj l), .ag (cellsOf Zag m)] (.c (.bool (ZfR l m))) []:=by
 refine bc0 [ZBs,Zwf,ZiE,Zwr,Zpi] [] [] [] L0 Tryz.func217 (fun hwf=>?_)
 refine Eq.mpr (β:=T3 (pt True∧T2 (bif !(Zdr l) then T2 (rB false (ZfR l m)) else True∧pt True∧T2 (bif !(ZbG m) then True∧rB false (ZfR l m) else T3 (pt True∧T4 (pt True∧T5 (bif eqI m.1 1 then T4 (bif ltI l.length 4 then T4 (bif ltI (boxW l m.2.1) 0 then T4 (rB (!(geI (ZiC l m.2.2.2.2.1) 0)) (ZfR l m)) else T2 (rB false (ZfR l m))) else T4 (rB false (ZfR l m))) else T2 (bif ltI (boxW l m.2.1) 0 then True∧rB false (ZfR l m) else T4 (bif eqI m.1 3 then T3 (rB (!(geI (ZiC l m.2.2.2.2.1) 0)) (ZfR l m)) else T2 (bif eqI m.1 4 then pt (true=true)∧T2 (ZtK l m∧T6 (bif eqI (Zab l (Int.toNat (boxW l m.2.1))).2.2.1 m.2.2.1 then T2 (ZtK l m∧T6 (rB (ltI (List.length (Zab l (Int.toNat (boxW l m.2.1))).2.2.2) 6) (ZfR l m))) else T2 (rB false (ZfR l m)))) else T2 (bif eqI m.1 5 then ZA8 l m else T2 (bif eqI m.1 6 then ZA8 l m else True∧rB true (ZfR l m))))))))))))) (by kernel_rfl) ?_
 unfold ZA8 ZtK T2 T3 T4 T5 T6
 exact Zy7
def ZA9:ZaC Tryz.prog:=⟨217,[.v (.list Zaj), .s Zag],fun x=>True,fun x=>.c (.bool (ZfR x.1 x.2.1)),fun _=>[],fun x hx=>Zo5 x.1 x.2.1,Tryz.call217⟩
theorem ZBa (b:ZaM) (hpre:List.length b.2.2.2≤1048576):Zam Tryz.prog 227 [.ag (cellsOf Zaj b)] (.ag [.str b.1, .int .i64 b.2.1, .int .i64 b.2.2.1, .row 0 0]) [.row ZaU b.2.2.2 0 0 none]:=by
 refine bc0 [Zhi] [] [] [] L0 Tryz.func227 (fun hwf=>?_)
 refine Eq.mpr (β:=T4 (pt (b.2.2.2.length≤rowMax)∧T4 (pt ((cS b.1 b.1∧cI b.2.1 b.2.1∧cI b.2.2.1 b.2.2.1∧b.2.2.2=b.2.2.2∧True))))) (by kernel_rfl) ?_
 exact Zzq
def ZBb:ZaC Tryz.prog:=⟨227,[.s Zaj],fun x=>List.length x.1.2.2.2≤1048576,fun x=>.ag [.str x.1.1, .int .i64 x.1.2.1, .int .i64 x.1.2.2.1, .row 0 0],fun x=>[.row ZaU x.1.2.2.2 0 0 none],fun x hx=>ZBa x.1 hx,Tryz.call227⟩
theorem ZFC (b:ZaM) (hpre:List.length b.2.2.2≤1048576):Zam Tryz.prog 216 [.ag (cellsOf Zaj b)] (.ag [.str b.1, .int .i64 b.2.1, .int .i64 b.2.2.1, .row 0 0]) [.row ZaU b.2.2.2 0 0 none]:=by
 refine bc0 [] [] [] [] L0 Tryz.func216 (fun hwf=>?_)
 refine Eq.mpr (β:=T5 ((True∧List.length ([]:List Zds) + b.2.2.2.length≤rowMax)∧T4 (pt ((cS b.1 b.1∧cI b.2.1 b.2.1∧cI b.2.2.1 b.2.2.1∧(([]:List Zds) ++ b.2.2.2)=b.2.2.2∧True))))) (by kernel_rfl) ?_
 exact Zzq
def ZFD:ZaC Tryz.prog:=⟨216,[.s Zaj],fun x=>List.length x.1.2.2.2≤1048576,fun x=>.ag [.str x.1.1, .int .i64 x.1.2.1, .int .i64 x.1.2.2.1, .row 0 0],fun x=>[.row ZaU x.1.2.2.2 0 0 none],fun x hx=>ZFC x.1 hx,Tryz.call216⟩
def ZtL (l:List ZaM):Nat→List AV→Mem→Zbj
 | 3,tm,M=>⟨Nat,fun y=>(Zcn (ZcC tm [(3, .c (.row 0 0)),(5, .any),(6, .any),(9, .c (.int .i64 ((y:Nat):Int)))]) 10 9,ZlQ M [(0, .row Zaj (List.take y l) 0 0 none)]),fun y=>(y≤List.length l),fun y=>(List.length l - y)⟩
 | _,_,_=>⟨Unit,fun _=>([],[]),fun _=>False,fun _=>0⟩
theorem ZtM (l:List ZaM) (hpre:Zb1 l):Zam Tryz.prog 166 [.c (.hs .no Zaj l)] (.c (.row 0 0)) [.row Zaj l 0 0 none]:=by
 refine bc0 [ZBb] [] [] [] (ZtL l) Tryz.func166 (fun hwf=>?_)
 refine Eq.mpr (β:=T6 ((∃ q:Nat,(q≤l.length)∧lxs [hn Zaj l, .tp [], .c (.raw (.slice none 0 0)), .c (.row 0 0), .tp []] (True∧True∧lxs [hn Zaj l,ci l.length] (vI 0 q∧TN 9 (lxs [.tp []] True)))∧pt (leB (.row Zaj ([]:List ZaM) 0 0 none) (.row Zaj (List.take q l) 0 0 none)∧True))∧∀ y0:Nat,(y0≤l.length)→True∧bif ltI y0 l.length then ix 4 y0 l.length∧T5 (pt (List.length (Zab l y0).2.2.2≤1048576)∧True∧(True∧List.length (List.take y0 l) + List.length ([(Zab l y0)])≤rowMax)∧T3 (∃ y0' : Nat,(y0'≤l.length)∧(l.length - y0') < (l.length - y0)∧lxs [hn Zaj l, .tp [], .c (.raw (.slice none 0 0)), .c (.row 0 0), .tp []] (True∧True∧lxs [hn Zaj l,ci l.length] (vI (w64 ((y0:Int) + 1)) y0'∧TN 9 (lxs [.tp []] True)))∧pt (leB (.row Zaj (List.take y0 l ++ [(Zab l y0)]) 0 0 none) (.row Zaj (List.take y0' l) 0 0 none)∧True))) else T2 (pt ((List.take y0 l)=l)))) (by kernel_rfl) ?_
 unfold T2 T3 T5 T6
 exact Zy3
def Zl1:ZaC Tryz.prog:=⟨166,[.v (.list Zaj)],fun x=>Zb1 x.1,fun x=>.c (.row 0 0),fun x=>[.row Zaj x.1 0 0 none],fun x hx=>ZtM x.1 hx,Tryz.call166⟩
def Zv9 (l:List ZaM):Nat→List AV→Mem→Zbj
 | 3,tm,M=>⟨Nat,fun y=>(Zcn (ZcC tm [(3, .c (.row 0 0)),(4, .c (.int .i64 ((y:Nat):Int)))]) 5 15,ZlQ M [(0, .row Zaj (List.take y l) 0 0 none)]),fun y=>(y≤List.length l),fun y=>(List.length l - y)⟩
 | _,_,_=>⟨Unit,fun _=>([],[]),fun _=>False,fun _=>0⟩
theorem ZnL (l:List ZaM) (hpre:Zb1 l):Zam Tryz.prog 147 [.c (.hs .no Zaj l)] (.c (.row 0 0)) [.row Zaj l 0 0 none]:=by
 refine bc0 [ZFD] [] [] [] (Zv9 l) Tryz.func147 (fun hwf=>?_)
 refine Eq.mpr (β:=T4 ((∃ q:Nat,(q≤l.length)∧lxs [hn Zaj l, .tp [], .c (.raw (.slice none 0 0)), .c (.row 0 0)] (vI 0 q∧TN 15 (lxs [.tp []] True))∧pt (leB (.row Zaj ([]:List ZaM) 0 0 none) (.row Zaj (List.take q l) 0 0 none)∧True))∧∀ y0:Nat,(y0≤l.length)→T4 (bif ltI y0 l.length then T3 (ix 4 y0 l.length∧True∧pt (List.length (Zab l y0).2.2.2≤1048576)∧True∧(True∧List.length (List.take y0 l) + List.length ([(Zab l y0)])≤rowMax)∧T4 (∃ y0' : Nat,(y0'≤l.length)∧(l.length - y0') < (l.length - y0)∧lxs [hn Zaj l, .tp [], .c (.raw (.slice none 0 0)), .c (.row 0 0)] (vI (w64 ((y0:Int) + 1)) y0'∧TN 15 (lxs [.tp []] True))∧pt (leB (.row Zaj (List.take y0 l ++ [(Zab l y0)]) 0 0 none) (.row Zaj (List.take y0' l) 0 0 none)∧True))) else T2 (pt ((List.take y0 l)=l))))) (by kernel_rfl) ?_
 unfold T2 T3 T4
 exact Zy3
def Zjs:ZaC Tryz.prog:=⟨147,[.v (.list Zaj)],fun x=>Zb1 x.1,fun x=>.c (.row 0 0),fun x=>[.row Zaj x.1 0 0 none],fun x hx=>ZnL x.1 hx,Tryz.call147⟩
def Ziy (l:List ZaM) (m:Zax):Prop:=ix 4 (boxW l m.2.1) l.length
def ZtN (r0:List ZaM) (l:List ZaM) (m:Zax):Prop:=True∧pt (ZML r0∧r0=r0∧(True)∧True)∧∀ r1:List ZaM,r1=Ziu r0→T2 (pt ((([]:List ZaM)=[]∧True)∧r1=ZeV l m))
def ZBc (l:List ZaM) (m:Zax):Prop:=ix 4 (boxW l m.2.1) (List.length (List.set l (Int.toNat (boxW l m.2.1)) ((Zab l (Int.toNat (boxW l m.2.1))).1,(Zab l (Int.toNat (boxW l m.2.1))).2.1,(Zab l (Int.toNat (boxW l m.2.1))).2.2.1,((Zab l (Int.toNat (boxW l m.2.1))).2.2.2 ++ [(m.2.2.1,m.2.2.2.1,m.2.2.2.2.2)]))))
theorem ZBd (l:List ZaM) (m:Zax) (hpre:ZfR l m=true):Zet Tryz.prog 168 (Zea 0 [(.g false (.list Zaj)),(.a (.s Zag))] (l,m,())) (Zh2 0 [(.g false (.list Zaj)),(.a (.s Zag))] (l,m,())) (Zfm 0 [(.g false (.list Zaj)),(.a (.s Zag))] (l,m,()) ++ [.row Zaj (ZeV l m) 0 0 none]) (inpM 0 [(.g false (.list Zaj)),(.a (.s Zag))]) (.c (.row 1 0)):=by
 refine Zdy (T:=⟨[ZiD,Zpg],[],[],[ZjE,Zlq,Zls],none,fun _=>[],1,[],[]⟩) (L:=L0) Tryz.func168 rfl rfl rfl (by kernel_rfl) (fun hwf hwm=>?_)
 refine Eq.mpr (β:=T5 ((True∧pt (true=true))∧T5 (bif eqI m.1 1 then T7 ((True∧l.length + List.length ([(m.2.2.2.2.1,m.2.1,1,([]:List Zds))])≤rowMax)∧T2 (pt (ZML (l ++ [(m.2.2.2.2.1,m.2.1,1,([]:List Zds))])∧(l ++ [(m.2.2.2.2.1,m.2.1,1,([]:List Zds))])=(l ++ [(m.2.2.2.2.1,m.2.1,1,([]:List Zds))])∧(True)∧True)∧∀ r0:List ZaM,r0=Ziu (l ++ [(m.2.2.2.2.1,m.2.1,1,([]:List Zds))])→T2 (pt ((([]:List ZaM)=[]∧True)∧r0=ZeV l m)))) else T2 (bif eqI m.1 2 then T4 (pt (ZNF l (boxW l m.2.1) (w64 (boxW l m.2.1 + 1))∧l=l∧True)∧∀ r0:List ZaM,r0=([]:List ZaM)→T2 (pt (ZML (ZnG l (Int.toNat (boxW l m.2.1)))∧(ZnG l (Int.toNat (boxW l m.2.1)))=ZnG l (Int.toNat (boxW l m.2.1))∧(True)∧True)∧∀ r1:List ZaM,r1=Ziu (ZnG l (Int.toNat (boxW l m.2.1)))→T2 (pt ((([]:List ZaM)=[]∧True)∧r1=ZeV l m)))) else T2 (bif eqI m.1 3 then T4 (Ziy l m∧T2 (∀ r0:List ZaM,r0=List.set l (Int.toNat (boxW l m.2.1)) (m.2.2.2.2.1,(Zab l (Int.toNat (boxW l m.2.1))).2)→ZtN r0 l m)) else T2 (bif eqI m.1 4 then pt (true=true)∧T4 (Ziy l m∧T10 ((True∧List.length (Zab l (Int.toNat (boxW l m.2.1))).2.2.2 + List.length ([(m.2.2.1,m.2.2.2.1,m.2.2.2.2.2)])≤rowMax)∧Ziy l m∧True∧((Int.toNat (boxW l m.2.1)):Nat)=Int.toNat (boxW l m.2.1)∧T2 (ZBc l m∧T3 (ZBc l m∧T2 (∀ r0:List ZaM,r0=List.set (List.set l (Int.toNat (boxW l m.2.1)) ((Zab l (Int.toNat (boxW l m.2.1))).1,(Zab l (Int.toNat (boxW l m.2.1))).2.1,(Zab l (Int.toNat (boxW l m.2.1))).2.2.1,((Zab l (Int.toNat (boxW l m.2.1))).2.2.2 ++ [(m.2.2.1,m.2.2.2.1,m.2.2.2.2.2)]))) (Int.toNat (boxW l m.2.1)) ((Zab (List.set l (Int.toNat (boxW l m.2.1)) ((Zab l (Int.toNat (boxW l m.2.1))).1,(Zab l (Int.toNat (boxW l m.2.1))).2.1,(Zab l (Int.toNat (boxW l m.2.1))).2.2.1,((Zab l (Int.toNat (boxW l m.2.1))).2.2.2 ++ [(m.2.2.1,m.2.2.2.1,m.2.2.2.2.2)]))) (Int.toNat (boxW l m.2.1))).1,(Zab (List.set l (Int.toNat (boxW l m.2.1)) ((Zab l (Int.toNat (boxW l m.2.1))).1,(Zab l (Int.toNat (boxW l m.2.1))).2.1,(Zab l (Int.toNat (boxW l m.2.1))).2.2.1,((Zab l (Int.toNat (boxW l m.2.1))).2.2.2 ++ [(m.2.2.1,m.2.2.2.1,m.2.2.2.2.2)]))) (Int.toNat (boxW l m.2.1))).2.1,(w64 ((Zab (List.set l (Int.toNat (boxW l m.2.1)) ((Zab l (Int.toNat (boxW l m.2.1))).1,(Zab l (Int.toNat (boxW l m.2.1))).2.1,(Zab l (Int.toNat (boxW l m.2.1))).2.2.1,((Zab l (Int.toNat (boxW l m.2.1))).2.2.2 ++ [(m.2.2.1,m.2.2.2.1,m.2.2.2.2.2)]))) (Int.toNat (boxW l m.2.1))).2.2.1 + 1)),(Zab (List.set l (Int.toNat (boxW l m.2.1)) ((Zab l (Int.toNat (boxW l m.2.1))).1,(Zab l (Int.toNat (boxW l m.2.1))).2.1,(Zab l (Int.toNat (boxW l m.2.1))).2.2.1,((Zab l (Int.toNat (boxW l m.2.1))).2.2.2 ++ [(m.2.2.1,m.2.2.2.1,m.2.2.2.2.2)]))) (Int.toNat (boxW l m.2.1))).2.2.2)→ZtN r0 l m))))) else T2 (bif eqI m.1 5 then pt (true=true)∧T2 (Ziy l m∧T4 (Ziy l m∧T5 ((True∧pt (true=true))∧ix 3 (Zb6 (Zab l (Int.toNat (boxW l m.2.1))).2.2.2 m.2.2.1) (List.length (Zab l (Int.toNat (boxW l m.2.1))).2.2.2)∧T2 (∀ r0:List ZaM,r0=List.set l (Int.toNat (boxW l m.2.1)) ((Zab l (Int.toNat (boxW l m.2.1))).1,(Zab l (Int.toNat (boxW l m.2.1))).2.1,(Zab l (Int.toNat (boxW l m.2.1))).2.2.1,(List.set (Zab l (Int.toNat (boxW l m.2.1))).2.2.2 (Int.toNat (Zb6 (Zab l (Int.toNat (boxW l m.2.1))).2.2.2 m.2.2.1)) ((ZaG (Zab l (Int.toNat (boxW l m.2.1))).2.2.2 (Int.toNat (Zb6 (Zab l (Int.toNat (boxW l m.2.1))).2.2.2 m.2.2.1))).1,m.2.2.2.1,(ZaG (Zab l (Int.toNat (boxW l m.2.1))).2.2.2 (Int.toNat (Zb6 (Zab l (Int.toNat (boxW l m.2.1))).2.2.2 m.2.2.1))).2.2)))→ZtN r0 l m)))) else T2 (bif eqI m.1 6 then pt (true=true)∧T2 (Ziy l m∧T3 ((True∧pt (true=true))∧T5 (Ziy l m∧T5 (pt (ZNG (Zab l (Int.toNat (boxW l m.2.1))).2.2.2 (Zb6 (Zab l (Int.toNat (boxW l m.2.1))).2.2.2 m.2.2.1) (w64 (Zb6 (Zab l (Int.toNat (boxW l m.2.1))).2.2.2 m.2.2.1 + 1))∧(Zab l (Int.toNat (boxW l m.2.1))).2.2.2=(Zab l (Int.toNat (boxW l m.2.1))).2.2.2∧True)∧Ziy l m∧True∧((Int.toNat (boxW l m.2.1)):Nat)=Int.toNat (boxW l m.2.1)∧True∧pt (ZML (List.set l (Int.toNat (boxW l m.2.1)) ((Zab l (Int.toNat (boxW l m.2.1))).1,(Zab l (Int.toNat (boxW l m.2.1))).2.1,(Zab l (Int.toNat (boxW l m.2.1))).2.2.1,ZKf (Zab l (Int.toNat (boxW l m.2.1))).2.2.2 (Int.toNat (Zb6 (Zab l (Int.toNat (boxW l m.2.1))).2.2.2 m.2.2.1))))∧(List.set l (Int.toNat (boxW l m.2.1)) ((Zab l (Int.toNat (boxW l m.2.1))).1,(Zab l (Int.toNat (boxW l m.2.1))).2.1,(Zab l (Int.toNat (boxW l m.2.1))).2.2.1,ZKf (Zab l (Int.toNat (boxW l m.2.1))).2.2.2 (Int.toNat (Zb6 (Zab l (Int.toNat (boxW l m.2.1))).2.2.2 m.2.2.1))))=List.set l (Int.toNat (boxW l m.2.1)) ((Zab l (Int.toNat (boxW l m.2.1))).1,(Zab l (Int.toNat (boxW l m.2.1))).2.1,(Zab l (Int.toNat (boxW l m.2.1))).2.2.1,ZKf (Zab l (Int.toNat (boxW l m.2.1))).2.2.2 (Int.toNat (Zb6 (Zab l (Int.toNat (boxW l m.2.1))).2.2.2 m.2.2.1)))∧(True)∧True)∧∀ r0:List ZaM,r0=Ziu (List.set l (Int.toNat (boxW l m.2.1)) ((Zab l (Int.toNat (boxW l m.2.1))).1,(Zab l (Int.toNat (boxW l m.2.1))).2.1,(Zab l (Int.toNat (boxW l m.2.1))).2.2.1,ZKf (Zab l (Int.toNat (boxW l m.2.1))).2.2.2 (Int.toNat (Zb6 (Zab l (Int.toNat (boxW l m.2.1))).2.2.2 m.2.2.1))))→T2 (pt ((([]:List ZaM)=[]∧True)∧r0=ZeV l m)))))) else True∧pt (ZML l∧l=l∧(True)∧True)∧∀ r0:List ZaM,r0=Ziu l→T2 (pt ((([]:List ZaM)=[]∧True)∧r0=ZeV l m)))))))))) (by kernel_rfl) ?_
 unfold ZBc ZtN Ziy T10 T2 T3 T4 T5 T7
 obtain ⟨hs,hl4,hbx,hcm,hft⟩:=Ziv hpre
 have hw:=Zrr l m.2.1
 have hm:=ZFy l m.2.2.2.2.1
 have hp:=Zyy (bxB l m).2.2.2 m.2.2.1
 have hc:=Zjw.1 hcm
 have hne:m.1 ≠ 1→0≤boxW l m.2.1:=fun h=>by
  exact ZzF
 have hk:m.1 ≠ 1→Int.toNat (boxW l m.2.1) < l.length:=fun h=>by have:=hne h; omega
 have hb6:m.1 ≠ 1→(bxB l m).2.2.2.length≤6∧(1≤(bxB l m).2.2.1∧(bxB l m).2.2.1≤999999999):=fun h=>by
  exact ZAD
 have hpm:m.1=5∨m.1=6→0≤Zb6 (bxB l m).2.2.2 m.2.2.1:=fun h=>by
  exact Zzt
 have hwr:IntKind.wrap .i64 (boxW l m.2.1 + 1)=boxW l m.2.1 + 1:=Za3 (by omega) (by omega)
 have hwp:m.1 ≠ 1→IntKind.wrap .i64 (Zb6 (bxB l m).2.2.2 m.2.2.1 + 1)=Zb6 (bxB l m).2.2.2 m.2.2.1 + 1:=fun h=>by have:=hb6 h; exact Za3 (by omega) (by omega)
 have set_ok:∀ (v x:Int) (ms:List Zds),ZML (l.set (bxK l m) ((bxB l m).1,v,x,ms))∧Ziu (l.set (bxK l m) ((bxB l m).1,v,x,ms))=l.set (bxK l m) ((bxB l m).1,v,x,ms):=fun v x ms=>by
  have h1:srt (l.set (bxK l m) ((bxB l m).1,v,x,ms)):=ZNd hs rfl
  refine ⟨⟨by rw [List.length_set]; omega,Zo1 h1 (List.Perm.refl _)⟩,ZFx h1⟩
 simp only [Zbe,Zbl,Zbt,Bool.not_true,Bool.not_false,Zdq,eq_self]
 refine ⟨fun h1=>?_,fun h1=>⟨fun h2=>?_,fun h2=>⟨fun h3=>?_,fun h3=>⟨fun h4=>?_,fun h4=>⟨fun h5=>?_,fun h5=>⟨fun h6=>?_,fun h6=>?_⟩⟩⟩⟩⟩⟩
 ·have hf:=Zke.1 hft
  have hn:=ZLP (b:=(m.2.2.2.2.1,m.2.1,1,[])) hs (Zyx (n:=m.2.2.2.2.1) (by omega))
  refine ⟨by unfold rowMax; simp; omega,⟨by simp; omega,hn.1⟩,fun r hr=>?_⟩
  rw [hr,hn.2]
  unfold ZeV
  rw [if_pos h1]
 ·refine ⟨⟨hne h1,by omega,hwr⟩,fun r0 _=>⟨⟨?_,Zo1 (ZEb hs _) (List.Perm.refl _)⟩,fun r1 hr=>?_⟩⟩
  ·have:=(ZmU l (Int.toNat (boxW l m.2.1))).length_le
   omega
  ·rw [hr,ZFx (ZEb hs _)]
   unfold ZeV
   rw [if_neg h1,if_pos h2]
 ·have hf:=Zke.1 hft
  have hn:=ZLO (b:=(m.2.2.2.2.1,(bxB l m).2)) hs (hk h1) (Zyx (n:=m.2.2.2.2.1) (by omega))
  refine ⟨⟨hne h1,hw.2⟩,fun r0 hr0=>?_⟩
  subst hr0
  refine ⟨⟨by rw [List.length_set]; omega,hn.1⟩,fun r1 hr=>?_⟩
  rw [hr,hn.2]
  unfold ZeV
  rw [if_neg h1,if_neg h2,if_pos h3]
 ·have e:∀ X:ZaM,Zab (l.set (Int.toNat (boxW l m.2.1)) X) (Int.toNat (boxW l m.2.1))=X:=fun X=>ZaH (t:=Zaj) (hk h1)
  have h6:List.length (Zab l (Int.toNat (boxW l m.2.1))).2.2.2≤6∧1≤(Zab l (Int.toNat (boxW l m.2.1))).2.2.1∧(Zab l (Int.toNat (boxW l m.2.1))).2.2.1≤999999999:=hb6 h1
  simp only [e,List.set_set,List.length_set]
  rw [Za3 (by omega) (by omega)]
  refine ⟨⟨hne h1,hw.2⟩,by unfold rowMax; simp; omega,⟨hne h1,hw.2⟩,⟨hne h1,hw.2⟩,⟨hne h1,hw.2⟩,fun r0 hr0=>?_⟩
  subst hr0
  refine ⟨(set_ok _ _ _).1,fun r1 hr=>?_⟩
  rw [hr,(set_ok _ _ _).2]
  unfold ZeV
  rw [if_neg h1,if_neg h2,if_neg h3,if_pos h4]
 ·refine ⟨⟨hne h1,hw.2⟩,⟨hne h1,hw.2⟩,⟨hpm (.inl h5),hp.2⟩,fun r0 hr0=>?_⟩
  subst hr0
  refine ⟨(set_ok _ _ _).1,fun r1 hr=>?_⟩
  rw [hr,(set_ok _ _ _).2]
  exact ZAB
 ·refine ⟨⟨hne h1,hw.2⟩,⟨hne h1,hw.2⟩,⟨hpm (.inr h6),hp.2,hwp h1⟩,⟨hne h1,hw.2⟩,(set_ok _ _ _).1,fun r1 hr=>?_⟩
  rw [hr,(set_ok _ _ _).2]
  unfold ZeV
  rw [if_neg h1,if_neg h2,if_neg h3,if_neg h4,if_neg h5]
 ·exfalso
  rcases hc.2 with h | h | h | h | h <;> omega
def ZBe:Zdj Tryz.prog:=⟨168,[(.g false (.list Zaj)),(.a (.s Zag))],fun x=>ZfR x.1 x.2.1=true,fun x=>(x.1,x.2.1,()),fun x=>.c (.row 1 0),fun x=>[.row Zaj (ZeV x.1 x.2.1) 0 0 none],fun x hx=>ZBd x.1 x.2.1 hx,Tryz.call168⟩
end Go.Proofs.YtkompmgleojmlaaGreat
