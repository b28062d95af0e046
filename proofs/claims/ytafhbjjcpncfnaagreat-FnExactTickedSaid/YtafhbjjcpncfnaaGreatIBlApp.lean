import Derived.Test.YtafhbjjcpncfnaaGreatIBlCom
import Derived.Test.YtafhbjjcpncfnaaGreatIBlDel
import Derived.Test.YtafhbjjcpncfnaaGreatIBlSort
import Derived.Test.YtafhbjjcpncfnaaGreatIBxPerf
set_option linter.unusedSimpArgs false
set_option linter.unusedVariables false
set_option maxRecDepth 100000
set_option maxHeartbeats 4000000
namespace Go.Proofs.YtafhbjjcpncfnaaGreat
open Go.ChangeShapes Go.WideShapes Go.ChangeAt Go.RowKit Go.Joins Go.Deep
open GoRep (rep bulk)
def Ztx (l:List ZaO) (m:ZaA):Prop:=ix 4 (boxW l m.2.1) l.length
def ZAV (l:List ZaO) (m:ZaA):Prop:=pt (true=true)∧T2 (Ztx l m∧T3 (pt True∧T2 (rB (geI (Zb4 (Zab l (Int.toNat (boxW l m.2.1))).2.2.2 m.2.2.1) 0) (Zi2 l m))))
theorem Zty (l:List ZaO) (m:ZaA):Zao Tryz.prog 209 [.c (.hs .no Zaj l), .ag (cellsOf Zag m)] (.c (.bool (Zi2 l m))) []:=by
 refine bc0 [ZiE,Zwh,Zpb] [] [] [] L0 Tryz.func209 (fun hwf=>?_)
 refine Eq.mpr (β:=T5 (pt True∧T4 (bif eqI m.1 1 then T4 (bif ltI l.length 4 then T4 (bif ltI (boxW l m.2.1) 0 then T3 (pt True∧T3 (rB (ltI (ZiD l m.2.2.2.2.1) 0) (Zi2 l m))) else T2 (rB false (Zi2 l m))) else T4 (rB false (Zi2 l m))) else T2 (bif ltI (boxW l m.2.1) 0 then True∧rB false (Zi2 l m) else T4 (bif eqI m.1 3 then T3 (pt True∧T2 (rB (ltI (ZiD l m.2.2.2.2.1) 0) (Zi2 l m))) else T2 (bif eqI m.1 4 then pt (true=true)∧T4 (Ztx l m∧T4 (bif eqI m.2.2.1 (Zab l (Int.toNat (boxW l m.2.1))).2.2.1 then T2 (Ztx l m∧T6 (rB (ltI (List.length (Zab l (Int.toNat (boxW l m.2.1))).2.2.2) 6) (Zi2 l m))) else T2 (rB false (Zi2 l m)))) else T2 (bif eqI m.1 5 then ZAV l m else T2 (bif eqI m.1 6 then ZAV l m else True∧rB true (Zi2 l m))))))))) (by kernel_rfl) ?_
 unfold ZAV Ztx T2 T3 T4 T5 T6
 exact Zy6
def Ztz:ZaE Tryz.prog:=⟨209,[.v (.list Zaj), .s Zag],fun x=>True,fun x=>.c (.bool (Zi2 x.1 x.2.1)),fun _=>[],fun x hx=>Zty x.1 x.2.1,Tryz.call209⟩
theorem ZAW (l:List ZaO) (m:ZaA):Zao Tryz.prog 166 [.c (.hs .no Zaj l), .ag (cellsOf Zag m)] (.c (.bool (ZfP l m))) []:=by
 refine bc0 [ZBe,Zv6,Ztz] [] [] [] L0 Tryz.func166 (fun hwf=>?_)
 refine Eq.mpr (β:=T3 (pt True∧True∧bif Zdq l then True∧pt True∧T2 (bif ZbG m then T2 (pt True∧T2 (rB (Zi2 l m) (ZfP l m))) else T2 (rB false (ZfP l m))) else T4 (rB false (ZfP l m)))) (by kernel_rfl) ?_
 simp only [Zbu,ZbS,Zbn,Bool.not_true,Bool.not_false,Zeg,eq_self]
 repeat' (first | apply And.intro | intro _)
 all_goals first
  | (simp_all [ZfP]; done)
def ZAX:ZaE Tryz.prog:=⟨166,[.v (.list Zaj), .s Zag],fun x=>True,fun x=>.c (.bool (ZfP x.1 x.2.1)),fun _=>[],fun x hx=>ZAW x.1 x.2.1,Tryz.call166⟩
def ZtA (l:List ZaO) (m:ZaA):Prop:=ix 4 (boxW l m.2.1) l.length
def ZAY (l:List ZaO) (m:ZaA):Prop:=pt (true=true)∧T2 (ZtA l m∧T3 (pt True∧T2 (rB (geI (Zb4 (Zab l (Int.toNat (boxW l m.2.1))).2.2.2 m.2.2.1) 0) (ZfP l m))))
theorem Zo0 (l:List ZaO) (m:ZaA):Zao Tryz.prog 195 [.c (.hs .no Zaj l), .ag (cellsOf Zag m)] (.c (.bool (ZfP l m))) []:=by
 refine bc0 [ZBi,Zv8,ZiF,Zwk,Zpd] [] [] [] L0 Tryz.func195 (fun hwf=>?_)
 refine Eq.mpr (β:=T3 (pt True∧T2 (bif !(Zdq l) then T2 (rB false (ZfP l m)) else True∧pt True∧T2 (bif !(ZbG m) then True∧rB false (ZfP l m) else T3 (pt True∧T4 (pt True∧T5 (bif eqI m.1 1 then T4 (bif ltI l.length 4 then T4 (bif ltI (boxW l m.2.1) 0 then T4 (rB (!(geI (ZiD l m.2.2.2.2.1) 0)) (ZfP l m)) else T2 (rB false (ZfP l m))) else T4 (rB false (ZfP l m))) else T2 (bif ltI (boxW l m.2.1) 0 then True∧rB false (ZfP l m) else T4 (bif eqI m.1 3 then T3 (rB (!(geI (ZiD l m.2.2.2.2.1) 0)) (ZfP l m)) else T2 (bif eqI m.1 4 then pt (true=true)∧T2 (ZtA l m∧T6 (bif eqI (Zab l (Int.toNat (boxW l m.2.1))).2.2.1 m.2.2.1 then T2 (ZtA l m∧T6 (rB (ltI (List.length (Zab l (Int.toNat (boxW l m.2.1))).2.2.2) 6) (ZfP l m))) else T2 (rB false (ZfP l m)))) else T2 (bif eqI m.1 5 then ZAY l m else T2 (bif eqI m.1 6 then ZAY l m else True∧rB true (ZfP l m))))))))))))) (by kernel_rfl) ?_
 unfold ZAY ZtA T2 T3 T4 T5 T6
 exact Zy6
def ZAZ:ZaE Tryz.prog:=⟨195,[.v (.list Zaj), .s Zag],fun x=>True,fun x=>.c (.bool (ZfP x.1 x.2.1)),fun _=>[],fun x hx=>Zo0 x.1 x.2.1,Tryz.call195⟩
theorem ZA0 (b:ZaO) (hpre:List.length b.2.2.2≤1048576):Zao Tryz.prog 162 [.ag (cellsOf Zaj b)] (.ag [.str b.1, .int .i64 b.2.1, .int .i64 b.2.2.1, .row 0 0]) [.row ZaR b.2.2.2 0 0 none]:=by
 refine bc0 [Zhm] [] [] [] L0 Tryz.func162 (fun hwf=>?_)
 refine Eq.mpr (β:=T4 (pt (b.2.2.2.length≤rowMax)∧T4 (pt ((cS b.1 b.1∧cI b.2.1 b.2.1∧cI b.2.2.1 b.2.2.1∧b.2.2.2=b.2.2.2∧True))))) (by kernel_rfl) ?_
 exact Zzq
def ZA1:ZaE Tryz.prog:=⟨162,[.s Zaj],fun x=>List.length x.1.2.2.2≤1048576,fun x=>.ag [.str x.1.1, .int .i64 x.1.2.1, .int .i64 x.1.2.2.1, .row 0 0],fun x=>[.row ZaR x.1.2.2.2 0 0 none],fun x hx=>ZA0 x.1 hx,Tryz.call162⟩
theorem ZFh (b:ZaO) (hpre:List.length b.2.2.2≤1048576):Zao Tryz.prog 145 [.ag (cellsOf Zaj b)] (.ag [.str b.1, .int .i64 b.2.1, .int .i64 b.2.2.1, .row 0 0]) [.row ZaR b.2.2.2 0 0 none]:=by
 refine bc0 [] [] [] [] L0 Tryz.func145 (fun hwf=>?_)
 refine Eq.mpr (β:=T5 ((True∧List.length ([]:List Zdr) + b.2.2.2.length≤rowMax)∧T4 (pt ((cS b.1 b.1∧cI b.2.1 b.2.1∧cI b.2.2.1 b.2.2.1∧(([]:List Zdr) ++ b.2.2.2)=b.2.2.2∧True))))) (by kernel_rfl) ?_
 exact Zzq
def ZFi:ZaE Tryz.prog:=⟨145,[.s Zaj],fun x=>List.length x.1.2.2.2≤1048576,fun x=>.ag [.str x.1.1, .int .i64 x.1.2.1, .int .i64 x.1.2.2.1, .row 0 0],fun x=>[.row ZaR x.1.2.2.2 0 0 none],fun x hx=>ZFh x.1 hx,Tryz.call145⟩
def ZtB (l:List ZaO):Nat→List AV→Mem→Zbd
 | 3,tm,M=>⟨Nat,fun y=>(Zcf (Zct tm [(3, .c (.row 0 0)),(5, .any),(6, .any),(9, .c (.int .i64 ((y:Nat):Int)))]) 10 9,Zky M [(0, .row Zaj (List.take y l) 0 0 none)]),fun y=>(y≤List.length l),fun y=>(List.length l - y)⟩
 | _,_,_=>⟨Unit,fun _=>([],[]),fun _=>False,fun _=>0⟩
theorem ZtC (l:List ZaO) (hpre:ZbZ l):Zao Tryz.prog 102 [.c (.hs .no Zaj l)] (.c (.row 0 0)) [.row Zaj l 0 0 none]:=by
 refine bc0 [ZA1] [] [] [] (ZtB l) Tryz.func102 (fun hwf=>?_)
 refine Eq.mpr (β:=T6 ((∃ q:Nat,(q≤l.length)∧lxs [hn Zaj l, .tp [], .c (.raw (.slice none 0 0)), .c (.row 0 0), .tp []] (True∧True∧lxs [hn Zaj l,ci l.length] (vI 0 q∧TN 9 (lxs [.tp []] True)))∧pt (leB (.row Zaj ([]:List ZaO) 0 0 none) (.row Zaj (List.take q l) 0 0 none)∧True))∧∀ y0:Nat,(y0≤l.length)→True∧bif ltI y0 l.length then ix 4 y0 l.length∧T5 (pt (List.length (Zab l y0).2.2.2≤1048576)∧True∧(True∧List.length (List.take y0 l) + List.length ([(Zab l y0)])≤rowMax)∧T3 (∃ y0' : Nat,(y0'≤l.length)∧(l.length - y0') < (l.length - y0)∧lxs [hn Zaj l, .tp [], .c (.raw (.slice none 0 0)), .c (.row 0 0), .tp []] (True∧True∧lxs [hn Zaj l,ci l.length] (vI (w64 ((y0:Int) + 1)) y0'∧TN 9 (lxs [.tp []] True)))∧pt (leB (.row Zaj (List.take y0 l ++ [(Zab l y0)]) 0 0 none) (.row Zaj (List.take y0' l) 0 0 none)∧True))) else T2 (pt ((List.take y0 l)=l)))) (by kernel_rfl) ?_
 unfold T2 T3 T5 T6
 exact Zy2
def ZlU:ZaE Tryz.prog:=⟨102,[.v (.list Zaj)],fun x=>ZbZ x.1,fun x=>.c (.row 0 0),fun x=>[.row Zaj x.1 0 0 none],fun x hx=>ZtC x.1 hx,Tryz.call102⟩
def Zv2 (l:List ZaO):Nat→List AV→Mem→Zbd
 | 3,tm,M=>⟨Nat,fun y=>(Zcf (Zct tm [(3, .c (.row 0 0)),(4, .c (.int .i64 ((y:Nat):Int)))]) 5 15,Zky M [(0, .row Zaj (List.take y l) 0 0 none)]),fun y=>(y≤List.length l),fun y=>(List.length l - y)⟩
 | _,_,_=>⟨Unit,fun _=>([],[]),fun _=>False,fun _=>0⟩
theorem ZnI (l:List ZaO) (hpre:ZbZ l):Zao Tryz.prog 72 [.c (.hs .no Zaj l)] (.c (.row 0 0)) [.row Zaj l 0 0 none]:=by
 refine bc0 [ZFi] [] [] [] (Zv2 l) Tryz.func72 (fun hwf=>?_)
 refine Eq.mpr (β:=T4 ((∃ q:Nat,(q≤l.length)∧lxs [hn Zaj l, .tp [], .c (.raw (.slice none 0 0)), .c (.row 0 0)] (vI 0 q∧TN 15 (lxs [.tp []] True))∧pt (leB (.row Zaj ([]:List ZaO) 0 0 none) (.row Zaj (List.take q l) 0 0 none)∧True))∧∀ y0:Nat,(y0≤l.length)→T4 (bif ltI y0 l.length then T3 (ix 4 y0 l.length∧True∧pt (List.length (Zab l y0).2.2.2≤1048576)∧True∧(True∧List.length (List.take y0 l) + List.length ([(Zab l y0)])≤rowMax)∧T4 (∃ y0' : Nat,(y0'≤l.length)∧(l.length - y0') < (l.length - y0)∧lxs [hn Zaj l, .tp [], .c (.raw (.slice none 0 0)), .c (.row 0 0)] (vI (w64 ((y0:Int) + 1)) y0'∧TN 15 (lxs [.tp []] True))∧pt (leB (.row Zaj (List.take y0 l ++ [(Zab l y0)]) 0 0 none) (.row Zaj (List.take y0' l) 0 0 none)∧True))) else T2 (pt ((List.take y0 l)=l))))) (by kernel_rfl) ?_
 unfold T2 T3 T4
 exact Zy2
def Zjr:ZaE Tryz.prog:=⟨72,[.v (.list Zaj)],fun x=>ZbZ x.1,fun x=>.c (.row 0 0),fun x=>[.row Zaj x.1 0 0 none],fun x hx=>ZnI x.1 hx,Tryz.call72⟩
def Ziz (l:List ZaO) (m:ZaA):Prop:=ix 4 (boxW l m.2.1) l.length
def ZtD (r0:List ZaO) (l:List ZaO) (m:ZaA):Prop:=True∧pt (ZMh r0∧r0=r0∧(True)∧True)∧∀ r1:List ZaO,r1=Ziu r0→T2 (pt ((([]:List ZaO)=[]∧True)∧r1=ZeU l m))
def ZA2 (l:List ZaO) (m:ZaA):Prop:=ix 4 (boxW l m.2.1) (List.length (List.set l (Int.toNat (boxW l m.2.1)) ((Zab l (Int.toNat (boxW l m.2.1))).1,(Zab l (Int.toNat (boxW l m.2.1))).2.1,(Zab l (Int.toNat (boxW l m.2.1))).2.2.1,((Zab l (Int.toNat (boxW l m.2.1))).2.2.2 ++ [(m.2.2.1,m.2.2.2.1,m.2.2.2.2.2)]))))
theorem ZA3 (l:List ZaO) (m:ZaA) (hpre:ZfP l m=true):Zep Tryz.prog 167 (Zd7 0 [(.g false (.list Zaj)),(.a (.s Zag))] (l,m,())) (Zh3 0 [(.g false (.list Zaj)),(.a (.s Zag))] (l,m,())) (Zfj 0 [(.g false (.list Zaj)),(.a (.s Zag))] (l,m,()) ++ [.row Zaj (ZeU l m) 0 0 none]) (inpM 0 [(.g false (.list Zaj)),(.a (.s Zag))]) (.c (.row 1 0)):=by
 refine Zdu (T:=⟨[ZiE,Zpb],[],[],[ZjD,Zlp,Zlr],none,fun _=>[],1,[],[]⟩) (L:=L0) Tryz.func167 rfl rfl rfl (by kernel_rfl) (fun hwf hwm=>?_)
 refine Eq.mpr (β:=T5 ((True∧pt (true=true))∧T5 (bif eqI m.1 1 then T7 ((True∧l.length + List.length ([(m.2.2.2.2.1,m.2.1,1,([]:List Zdr))])≤rowMax)∧T2 (pt (ZMh (l ++ [(m.2.2.2.2.1,m.2.1,1,([]:List Zdr))])∧(l ++ [(m.2.2.2.2.1,m.2.1,1,([]:List Zdr))])=(l ++ [(m.2.2.2.2.1,m.2.1,1,([]:List Zdr))])∧(True)∧True)∧∀ r0:List ZaO,r0=Ziu (l ++ [(m.2.2.2.2.1,m.2.1,1,([]:List Zdr))])→T2 (pt ((([]:List ZaO)=[]∧True)∧r0=ZeU l m)))) else T2 (bif eqI m.1 2 then T4 (pt (ZNc l (boxW l m.2.1) (w64 (boxW l m.2.1 + 1))∧l=l∧True)∧∀ r0:List ZaO,r0=([]:List ZaO)→T2 (pt (ZMh (ZnE l (Int.toNat (boxW l m.2.1)))∧(ZnE l (Int.toNat (boxW l m.2.1)))=ZnE l (Int.toNat (boxW l m.2.1))∧(True)∧True)∧∀ r1:List ZaO,r1=Ziu (ZnE l (Int.toNat (boxW l m.2.1)))→T2 (pt ((([]:List ZaO)=[]∧True)∧r1=ZeU l m)))) else T2 (bif eqI m.1 3 then T4 (Ziz l m∧T2 (∀ r0:List ZaO,r0=List.set l (Int.toNat (boxW l m.2.1)) (m.2.2.2.2.1,(Zab l (Int.toNat (boxW l m.2.1))).2)→ZtD r0 l m)) else T2 (bif eqI m.1 4 then pt (true=true)∧T4 (Ziz l m∧T10 ((True∧List.length (Zab l (Int.toNat (boxW l m.2.1))).2.2.2 + List.length ([(m.2.2.1,m.2.2.2.1,m.2.2.2.2.2)])≤rowMax)∧Ziz l m∧True∧((Int.toNat (boxW l m.2.1)):Nat)=Int.toNat (boxW l m.2.1)∧T2 (ZA2 l m∧T3 (ZA2 l m∧T2 (∀ r0:List ZaO,r0=List.set (List.set l (Int.toNat (boxW l m.2.1)) ((Zab l (Int.toNat (boxW l m.2.1))).1,(Zab l (Int.toNat (boxW l m.2.1))).2.1,(Zab l (Int.toNat (boxW l m.2.1))).2.2.1,((Zab l (Int.toNat (boxW l m.2.1))).2.2.2 ++ [(m.2.2.1,m.2.2.2.1,m.2.2.2.2.2)]))) (Int.toNat (boxW l m.2.1)) ((Zab (List.set l (Int.toNat (boxW l m.2.1)) ((Zab l (Int.toNat (boxW l m.2.1))).1,(Zab l (Int.toNat (boxW l m.2.1))).2.1,(Zab l (Int.toNat (boxW l m.2.1))).2.2.1,((Zab l (Int.toNat (boxW l m.2.1))).2.2.2 ++ [(m.2.2.1,m.2.2.2.1,m.2.2.2.2.2)]))) (Int.toNat (boxW l m.2.1))).1,(Zab (List.set l (Int.toNat (boxW l m.2.1)) ((Zab l (Int.toNat (boxW l m.2.1))).1,(Zab l (Int.toNat (boxW l m.2.1))).2.1,(Zab l (Int.toNat (boxW l m.2.1))).2.2.1,((Zab l (Int.toNat (boxW l m.2.1))).2.2.2 ++ [(m.2.2.1,m.2.2.2.1,m.2.2.2.2.2)]))) (Int.toNat (boxW l m.2.1))).2.1,(w64 ((Zab (List.set l (Int.toNat (boxW l m.2.1)) ((Zab l (Int.toNat (boxW l m.2.1))).1,(Zab l (Int.toNat (boxW l m.2.1))).2.1,(Zab l (Int.toNat (boxW l m.2.1))).2.2.1,((Zab l (Int.toNat (boxW l m.2.1))).2.2.2 ++ [(m.2.2.1,m.2.2.2.1,m.2.2.2.2.2)]))) (Int.toNat (boxW l m.2.1))).2.2.1 + 1)),(Zab (List.set l (Int.toNat (boxW l m.2.1)) ((Zab l (Int.toNat (boxW l m.2.1))).1,(Zab l (Int.toNat (boxW l m.2.1))).2.1,(Zab l (Int.toNat (boxW l m.2.1))).2.2.1,((Zab l (Int.toNat (boxW l m.2.1))).2.2.2 ++ [(m.2.2.1,m.2.2.2.1,m.2.2.2.2.2)]))) (Int.toNat (boxW l m.2.1))).2.2.2)→ZtD r0 l m))))) else T2 (bif eqI m.1 5 then pt (true=true)∧T2 (Ziz l m∧T4 (Ziz l m∧T5 ((True∧pt (true=true))∧ix 3 (Zb4 (Zab l (Int.toNat (boxW l m.2.1))).2.2.2 m.2.2.1) (List.length (Zab l (Int.toNat (boxW l m.2.1))).2.2.2)∧T2 (∀ r0:List ZaO,r0=List.set l (Int.toNat (boxW l m.2.1)) ((Zab l (Int.toNat (boxW l m.2.1))).1,(Zab l (Int.toNat (boxW l m.2.1))).2.1,(Zab l (Int.toNat (boxW l m.2.1))).2.2.1,(List.set (Zab l (Int.toNat (boxW l m.2.1))).2.2.2 (Int.toNat (Zb4 (Zab l (Int.toNat (boxW l m.2.1))).2.2.2 m.2.2.1)) ((ZaG (Zab l (Int.toNat (boxW l m.2.1))).2.2.2 (Int.toNat (Zb4 (Zab l (Int.toNat (boxW l m.2.1))).2.2.2 m.2.2.1))).1,m.2.2.2.1,(ZaG (Zab l (Int.toNat (boxW l m.2.1))).2.2.2 (Int.toNat (Zb4 (Zab l (Int.toNat (boxW l m.2.1))).2.2.2 m.2.2.1))).2.2)))→ZtD r0 l m)))) else T2 (bif eqI m.1 6 then pt (true=true)∧T2 (Ziz l m∧T3 ((True∧pt (true=true))∧T5 (Ziz l m∧T5 (pt (ZNd (Zab l (Int.toNat (boxW l m.2.1))).2.2.2 (Zb4 (Zab l (Int.toNat (boxW l m.2.1))).2.2.2 m.2.2.1) (w64 (Zb4 (Zab l (Int.toNat (boxW l m.2.1))).2.2.2 m.2.2.1 + 1))∧(Zab l (Int.toNat (boxW l m.2.1))).2.2.2=(Zab l (Int.toNat (boxW l m.2.1))).2.2.2∧True)∧Ziz l m∧True∧((Int.toNat (boxW l m.2.1)):Nat)=Int.toNat (boxW l m.2.1)∧True∧pt (ZMh (List.set l (Int.toNat (boxW l m.2.1)) ((Zab l (Int.toNat (boxW l m.2.1))).1,(Zab l (Int.toNat (boxW l m.2.1))).2.1,(Zab l (Int.toNat (boxW l m.2.1))).2.2.1,ZJM (Zab l (Int.toNat (boxW l m.2.1))).2.2.2 (Int.toNat (Zb4 (Zab l (Int.toNat (boxW l m.2.1))).2.2.2 m.2.2.1))))∧(List.set l (Int.toNat (boxW l m.2.1)) ((Zab l (Int.toNat (boxW l m.2.1))).1,(Zab l (Int.toNat (boxW l m.2.1))).2.1,(Zab l (Int.toNat (boxW l m.2.1))).2.2.1,ZJM (Zab l (Int.toNat (boxW l m.2.1))).2.2.2 (Int.toNat (Zb4 (Zab l (Int.toNat (boxW l m.2.1))).2.2.2 m.2.2.1))))=List.set l (Int.toNat (boxW l m.2.1)) ((Zab l (Int.toNat (boxW l m.2.1))).1,(Zab l (Int.toNat (boxW l m.2.1))).2.1,(Zab l (Int.toNat (boxW l m.2.1))).2.2.1,ZJM (Zab l (Int.toNat (boxW l m.2.1))).2.2.2 (Int.toNat (Zb4 (Zab l (Int.toNat (boxW l m.2.1))).2.2.2 m.2.2.1)))∧(True)∧True)∧∀ r0:List ZaO,r0=Ziu (List.set l (Int.toNat (boxW l m.2.1)) ((Zab l (Int.toNat (boxW l m.2.1))).1,(Zab l (Int.toNat (boxW l m.2.1))).2.1,(Zab l (Int.toNat (boxW l m.2.1))).2.2.1,ZJM (Zab l (Int.toNat (boxW l m.2.1))).2.2.2 (Int.toNat (Zb4 (Zab l (Int.toNat (boxW l m.2.1))).2.2.2 m.2.2.1))))→T2 (pt ((([]:List ZaO)=[]∧True)∧r0=ZeU l m)))))) else True∧pt (ZMh l∧l=l∧(True)∧True)∧∀ r0:List ZaO,r0=Ziu l→T2 (pt ((([]:List ZaO)=[]∧True)∧r0=ZeU l m)))))))))) (by kernel_rfl) ?_
 unfold ZA2 ZtD Ziz T10 T2 T3 T4 T5 T7
 obtain ⟨hs,hl4,hbx,hcm,hft⟩:=Ziv hpre
 have hw:=Zri l m.2.1
 have hm:=ZFe l m.2.2.2.2.1
 have hp:=ZyA (bxB l m).2.2.2 m.2.2.1
 have hc:=Zjv.1 hcm
 have hne:m.1 ≠ 1→0≤boxW l m.2.1:=fun h=>by
  exact ZzG
 have hk:m.1 ≠ 1→Int.toNat (boxW l m.2.1) < l.length:=fun h=>by have:=hne h; omega
 have hb6:m.1 ≠ 1→(bxB l m).2.2.2.length≤6∧(1≤(bxB l m).2.2.1∧(bxB l m).2.2.1≤999999999):=fun h=>by
  exact ZAD
 have hpm:m.1=5∨m.1=6→0≤Zb4 (bxB l m).2.2.2 m.2.2.1:=fun h=>by
  exact Zzt
 have hwr:IntKind.wrap .i64 (boxW l m.2.1 + 1)=boxW l m.2.1 + 1:=ZaX (by omega) (by omega)
 have hwp:m.1 ≠ 1→IntKind.wrap .i64 (Zb4 (bxB l m).2.2.2 m.2.2.1 + 1)=Zb4 (bxB l m).2.2.2 m.2.2.1 + 1:=fun h=>by have:=hb6 h; exact ZaX (by omega) (by omega)
 have set_ok:∀ (v x:Int) (ms:List Zdr),ZMh (l.set (bxK l m) ((bxB l m).1,v,x,ms))∧Ziu (l.set (bxK l m) ((bxB l m).1,v,x,ms))=l.set (bxK l m) ((bxB l m).1,v,x,ms):=fun v x ms=>by
  have h1:srt (l.set (bxK l m) ((bxB l m).1,v,x,ms)):=ZMJ hs rfl
  refine ⟨⟨by rw [List.length_set]; omega,ZoX h1 (List.Perm.refl _)⟩,ZFd h1⟩
 simp only [Zbu,ZbS,Zbn,Bool.not_true,Bool.not_false,Zeg,eq_self]
 refine ⟨fun h1=>?_,fun h1=>⟨fun h2=>?_,fun h2=>⟨fun h3=>?_,fun h3=>⟨fun h4=>?_,fun h4=>⟨fun h5=>?_,fun h5=>⟨fun h6=>?_,fun h6=>?_⟩⟩⟩⟩⟩⟩
 ·have hf:=Zkb.1 hft
  have hn:=ZLm (b:=(m.2.2.2.2.1,m.2.1,1,[])) hs (Zyz (n:=m.2.2.2.2.1) (by omega))
  refine ⟨by unfold rowMax; simp; omega,⟨by simp; omega,hn.1⟩,fun r hr=>?_⟩
  rw [hr,hn.2]
  unfold ZeU
  rw [if_pos h1]
 ·refine ⟨⟨hne h1,by omega,hwr⟩,fun r0 _=>⟨⟨?_,ZoX (ZDT hs _) (List.Perm.refl _)⟩,fun r1 hr=>?_⟩⟩
  ·have:=(ZmO l (Int.toNat (boxW l m.2.1))).length_le
   omega
  ·rw [hr,ZFd (ZDT hs _)]
   unfold ZeU
   rw [if_neg h1,if_pos h2]
 ·have hf:=Zkb.1 hft
  have hn:=ZLl (b:=(m.2.2.2.2.1,(bxB l m).2)) hs (hk h1) (Zyz (n:=m.2.2.2.2.1) (by omega))
  refine ⟨⟨hne h1,hw.2⟩,fun r0 hr0=>?_⟩
  subst hr0
  refine ⟨⟨by rw [List.length_set]; omega,hn.1⟩,fun r1 hr=>?_⟩
  rw [hr,hn.2]
  unfold ZeU
  rw [if_neg h1,if_neg h2,if_pos h3]
 ·have e:∀ X:ZaO,Zab (l.set (Int.toNat (boxW l m.2.1)) X) (Int.toNat (boxW l m.2.1))=X:=fun X=>ZaH (t:=Zaj) (hk h1)
  have h6:List.length (Zab l (Int.toNat (boxW l m.2.1))).2.2.2≤6∧1≤(Zab l (Int.toNat (boxW l m.2.1))).2.2.1∧(Zab l (Int.toNat (boxW l m.2.1))).2.2.1≤999999999:=hb6 h1
  simp only [e,List.set_set,List.length_set]
  rw [ZaX (by omega) (by omega)]
  refine ⟨⟨hne h1,hw.2⟩,by unfold rowMax; simp; omega,⟨hne h1,hw.2⟩,⟨hne h1,hw.2⟩,⟨hne h1,hw.2⟩,fun r0 hr0=>?_⟩
  subst hr0
  refine ⟨(set_ok _ _ _).1,fun r1 hr=>?_⟩
  rw [hr,(set_ok _ _ _).2]
  unfold ZeU
  rw [if_neg h1,if_neg h2,if_neg h3,if_pos h4]
 ·refine ⟨⟨hne h1,hw.2⟩,⟨hne h1,hw.2⟩,⟨hpm (.inl h5),hp.2⟩,fun r0 hr0=>?_⟩
  subst hr0
  refine ⟨(set_ok _ _ _).1,fun r1 hr=>?_⟩
  rw [hr,(set_ok _ _ _).2]
  exact ZAB
 ·refine ⟨⟨hne h1,hw.2⟩,⟨hne h1,hw.2⟩,⟨hpm (.inr h6),hp.2,hwp h1⟩,⟨hne h1,hw.2⟩,(set_ok _ _ _).1,fun r1 hr=>?_⟩
  rw [hr,(set_ok _ _ _).2]
  unfold ZeU
  rw [if_neg h1,if_neg h2,if_neg h3,if_neg h4,if_neg h5]
 ·exfalso
  rcases hc.2 with h | h | h | h | h <;> omega
def ZA4:Zdb Tryz.prog:=⟨167,[(.g false (.list Zaj)),(.a (.s Zag))],fun x=>ZfP x.1 x.2.1=true,fun x=>(x.1,x.2.1,()),fun x=>.c (.row 1 0),fun x=>[.row Zaj (ZeU x.1 x.2.1) 0 0 none],fun x hx=>ZA3 x.1 x.2.1 hx,Tryz.call167⟩
end Go.Proofs.YtafhbjjcpncfnaaGreat
