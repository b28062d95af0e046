import Derived.Test.YtkompmgleojmlaaGreatFLawA
set_option linter.unusedSimpArgs false
set_option linter.unusedVariables false
set_option maxRecDepth 100000
set_option maxHeartbeats 4000000
namespace Go.Proofs.YtkompmgleojmlaaGreat
open Go.ChangeShapes Go.WideShapes Go.ChangeAt Go.RowKit Go.Joins Go.Deep
open GoRep (rep bulk)
def Zsb (a:List ByteArray) (left:Int):Nat→List AV→Mem→Zbn
  | 5,tm,M=>⟨Nat,fun y=>(ZcN (ZcV tm [(1, .c (.int .i64 (left - ((List.length a:Nat):Int) - ((ZaF (List.take y a):Nat):Int)))),(4, .any),(5, .c (.int .i64 ((y:Nat):Int)))]) 12 15,M),fun y=>(y≤List.length a∧((List.length a:Nat):Int) + ((ZaF (List.take y a):Nat):Int)≤left),fun y=>(List.length a - y)⟩
  | _,_,_=>⟨Unit,fun _=>([],[]),fun _=>False,fun _=>0⟩
theorem Zsc (a:List ByteArray) (left:Int) (hpre:szP left):Zat Tryz.prog 288 [.c (.hs .no ZaK a), .c (.int .i64 left)] (.c (.int .i64 (szT left (bulk a)))) []:=by
  refine bc0 [] [] [] [] (Zsb a left) Tryz.func288 (fun hwf=>?_)
  refine Eq.mpr (β:=(T8 (bif (ltI (w64 (left - (List.length a:Int))) 0) then (True∧(rI (-1) (szT left (bulk a)))) else (True∧((∃ q:Nat,(q≤List.length a∧(List.length a:Int) + (ZaF (List.take q a):Int)≤left)∧((lxs [hn ZaK a] (vI (w64 (left - (List.length a:Int))) (left - (List.length a:Int) - (ZaF (List.take q a):Int))∧lxs [.tp [], .tp []] (True∧vI 0 q∧lxs [ci left,hn ZaK a,ci (List.length a),ci (w64 (left - (List.length a:Int))),ci (w64 (left - (List.length a:Int))), .c (.bool false)] (TN 15 (lxs [.tp []] True)))))∧pt (True)))∧∀ y0:Nat,(y0≤List.length a∧(List.length a:Int) + (ZaF (List.take y0 a):Int)≤left)→(T4 (bif (ltI y0 (List.length a)) then (T3 ((ix 1 y0 (List.length a))∧(T6 (bif (ltI (w64 ((left - (List.length a:Int) - (ZaF (List.take y0 a):Int)) - (ByteArray.size (ZaJ a y0):Int))) 0) then (True∧(rI (-1) (szT left (bulk a)))) else (T3 (∃ y0' : Nat,(y0'≤List.length a∧(List.length a:Int) + (ZaF (List.take y0' a):Int)≤left)∧(List.length a - y0') < (List.length a - y0)∧((lxs [hn ZaK a] (vI (w64 ((left - (List.length a:Int) - (ZaF (List.take y0 a):Int)) - (ByteArray.size (ZaJ a y0):Int))) (left - (List.length a:Int) - (ZaF (List.take y0' a):Int))∧lxs [.tp [], .tp []] (True∧vI (w64 ((y0:Int) + 1)) y0'∧lxs [ci left,hn ZaK a,ci (List.length a),ci (w64 (left - (List.length a:Int))),ci (w64 (left - (List.length a:Int))), .c (.bool false)] (TN 15 (lxs [.tp []] True)))))∧pt (True)))))))) else (T2 (rI (left - (List.length a:Int) - (ZaF (List.take y0 a):Int)) (szT left (bulk a))))))))))) (by kernel_rfl) ?_
  unfold T2 T3 T4 T6 T8
  obtain ⟨hp0,hp1⟩:=hpre
  have hm:a.length≤maxLen:=hwf.1.1
  have H0:=ZaW left (bulk a)
  have hb:bulk a=a.length + ZaF a:=rfl
  have w0:=Zg4 (left - ((List.length a:Nat):Int))
  unfold maxLen at hm
  have z0:ZaF (List.take 0 a)=0:=rfl
  have z1:ZaF (List.take a.length a)=ZaF a:=by rw [List.take_length]
  simp only [SIA,eq_self]
  refine ⟨fun h=>by omega,fun h=>⟨⟨0,⟨Nat.zero_le _,by omega⟩,?_⟩,fun k hk=>⟨fun hlt=>?_,fun hge=>?_⟩⟩⟩
  · exact Zgr
  · have hlt:k < a.length:=by omega
    have hk:=Zau (t:=ZaK) hlt
    have s1:ZaF (List.take (k + 1) a)=ZaF (List.take k a) + bulk (ZaJ a k):=ZdU hk
    have s2:ZaF (List.take (k + 1) a)≤ZaF a:=ZgH a (k + 1)
    have k1:=ZbN (k:=k) (by unfold maxLen; omega)
    have hs:(ZaJ a k).size≤maxLen:=ZGU (t:=ZaK) hwf.1.2 hlt
    have w1:=Zg4 ((left - ((List.length a:Nat):Int) - ((ZaF (List.take k a):Nat):Int)) - ((ByteArray.size (ZaJ a k):Nat):Int))
    have hbk:bulk (ZaJ a k)=(ZaJ a k).size:=rfl
    (try unfold maxLen at *)
    exact Zgo
  · exact Zgq
def Zsd:ZaI Tryz.prog:=⟨288,[.v (.list ZaK), .v ZaC],fun x=>szP x.2.1,fun x=>.c (.int .i64 (szT x.2.1 (bulk x.1))),fun _=>[],fun x hx=>Zsc x.1 x.2.1 hx,Tryz.call288⟩
theorem ZyT (a:Za3) (left:Int) (hpre:szP left):Zat Tryz.prog 259 [.ag [.int .i64 a.1, .hs .no ZaK a.2.1, .int .i64 a.2.2], .c (.int .i64 left)] (.c (.int .i64 (szT left (bulk a)))) []:=by
  refine bc0 [Zsd] [] [] [] L0 Tryz.func259 (fun hwf=>?_)
  refine Eq.mpr (β:=(T5 ((pt (szP left))∧(T3 (bif (ltI (szT left (bulk a.2.1)) 0) then (True∧(rI (-1) (szT left (bulk a)))) else (T2 (rI (szT left (bulk a.2.1)) (szT left (bulk a))))))))) (by kernel_rfl) ?_
  obtain ⟨hp0,hp1⟩:=hpre
  have H0:=ZaW left (bulk a)
  have hb:bulk a=bulk a.2.1:=by
    have e:bulk a=0 + (bulk a.2.1 + (0)):=rfl
    omega
  have w1:=ZaW left (bulk a.2.1)
  exact ZcT
def ZyU:ZaI Tryz.prog:=⟨259,[.s Zar, .v ZaC],fun x=>szP x.2.1,fun x=>.c (.int .i64 (szT x.2.1 (bulk x.1))),fun _=>[],fun x hx=>ZyT x.1 x.2.1 hx,Tryz.call259⟩
def Zt5 (a:List Za3) (left:Int):Nat→List AV→Mem→Zbn
  | 5,tm,M=>⟨Nat,fun y=>(ZcN (ZcV tm [(1, .c (.int .i64 (left - ((List.length a:Nat):Int) - ((ZaF (List.take y a):Nat):Int)))),(4, .any),(5, .c (.int .i64 ((y:Nat):Int)))]) 12 14,M),fun y=>(y≤List.length a∧((List.length a:Nat):Int) + ((ZaF (List.take y a):Nat):Int)≤left),fun y=>(List.length a - y)⟩
  | _,_,_=>⟨Unit,fun _=>([],[]),fun _=>False,fun _=>0⟩
theorem Zt6 (a:List Za3) (left:Int) (hpre:szP left):Zat Tryz.prog 214 [.c (.hs .no Zar a), .c (.int .i64 left)] (.c (.int .i64 (szT left (bulk a)))) []:=by
  refine bc0 [ZyU] [] [] [] (Zt5 a left) Tryz.func214 (fun hwf=>?_)
  refine Eq.mpr (β:=(T8 (bif (ltI (w64 (left - (List.length a:Int))) 0) then (True∧(rI (-1) (szT left (bulk a)))) else (True∧((∃ q:Nat,(q≤List.length a∧(List.length a:Int) + (ZaF (List.take q a):Int)≤left)∧((lxs [hn Zar a] (vI (w64 (left - (List.length a:Int))) (left - (List.length a:Int) - (ZaF (List.take q a):Int))∧lxs [.tp [], .tp []] (True∧vI 0 q∧lxs [ci left,hn Zar a,ci (List.length a),ci (w64 (left - (List.length a:Int))),ci (w64 (left - (List.length a:Int))), .c (.bool false)] (TN 14 (lxs [.tp []] True)))))∧pt (True)))∧∀ y0:Nat,(y0≤List.length a∧(List.length a:Int) + (ZaF (List.take y0 a):Int)≤left)→(T4 (bif (ltI y0 (List.length a)) then (T2 ((ix 3 y0 (List.length a))∧(T2 ((pt (szP (left - (List.length a:Int) - (ZaF (List.take y0 a):Int))))∧(T3 (bif (ltI (szT (left - (List.length a:Int) - (ZaF (List.take y0 a):Int)) (bulk (Zav a y0))) 0) then (True∧(rI (-1) (szT left (bulk a)))) else (T3 (∃ y0' : Nat,(y0'≤List.length a∧(List.length a:Int) + (ZaF (List.take y0' a):Int)≤left)∧(List.length a - y0') < (List.length a - y0)∧((lxs [hn Zar a] (vI (szT (left - (List.length a:Int) - (ZaF (List.take y0 a):Int)) (bulk (Zav a y0))) (left - (List.length a:Int) - (ZaF (List.take y0' a):Int))∧lxs [.tp [], .tp []] (True∧vI (w64 ((y0:Int) + 1)) y0'∧lxs [ci left,hn Zar a,ci (List.length a),ci (w64 (left - (List.length a:Int))),ci (w64 (left - (List.length a:Int))), .c (.bool false)] (TN 14 (lxs [.tp []] True)))))∧pt (True)))))))))) else (T2 (rI (left - (List.length a:Int) - (ZaF (List.take y0 a):Int)) (szT left (bulk a))))))))))) (by kernel_rfl) ?_
  unfold T2 T3 T4 T8
  obtain ⟨hp0,hp1⟩:=hpre
  have hm:a.length≤maxLen:=hwf.1.1
  have H0:=ZaW left (bulk a)
  have hb:bulk a=a.length + ZaF a:=rfl
  have w0:=Zg4 (left - ((List.length a:Nat):Int))
  unfold maxLen at hm
  have z0:ZaF (List.take 0 a)=0:=rfl
  have z1:ZaF (List.take a.length a)=ZaF a:=by rw [List.take_length]
  simp only [SIA,eq_self]
  refine ⟨fun h=>by omega,fun h=>⟨⟨0,⟨Nat.zero_le _,by omega⟩,?_⟩,fun k hk=>⟨fun hlt=>?_,fun hge=>?_⟩⟩⟩
  · exact Zgr
  · have hlt:k < a.length:=by omega
    have hk:=Zau (t:=Zar) hlt
    have s1:ZaF (List.take (k + 1) a)=ZaF (List.take k a) + bulk (Zav a k):=ZdU hk
    have s2:ZaF (List.take (k + 1) a)≤ZaF a:=ZgH a (k + 1)
    have k1:=ZbN (k:=k) (by unfold maxLen; omega)
    have w1:=ZaW (left - ((List.length a:Nat):Int) - ((ZaF (List.take k a):Nat):Int)) (bulk (Zav a k))
    (try unfold maxLen at *)
    exact Zgo
  · exact Zgq
def Zt7:ZaI Tryz.prog:=⟨214,[.v (.list Zar), .v ZaC],fun x=>szP x.2.1,fun x=>.c (.int .i64 (szT x.2.1 (bulk x.1))),fun _=>[],fun x hx=>Zt6 x.1 x.2.1 hx,Tryz.call214⟩
theorem Zt8 (a:ZbP) (left:Int) (hpre:szP left):Zat Tryz.prog 143 [.ag [.bool a.1, .hs .no Zar a.2], .c (.int .i64 left)] (.c (.int .i64 (szT left (bulk a)))) []:=by
  refine bc0 [Zt7] [] [] [] L0 Tryz.func143 (fun hwf=>?_)
  refine Eq.mpr (β:=(T5 ((pt (szP left))∧(T3 (bif (ltI (szT left (bulk a.2)) 0) then (True∧(rI (-1) (szT left (bulk a)))) else (T2 (rI (szT left (bulk a.2)) (szT left (bulk a))))))))) (by kernel_rfl) ?_
  obtain ⟨hp0,hp1⟩:=hpre
  have H0:=ZaW left (bulk a)
  have hb:bulk a=bulk a.2:=by
    have e:bulk a=0 + (bulk a.2):=rfl
    omega
  have w1:=ZaW left (bulk a.2)
  exact ZcT
def Zt9:ZaI Tryz.prog:=⟨143,[.s Zdi, .v ZaC],fun x=>szP x.2.1,fun x=>.c (.int .i64 (szT x.2.1 (bulk x.1))),fun _=>[],fun x hx=>Zt8 x.1 x.2.1 hx,Tryz.call143⟩
theorem ZDK (a:ZcU) (left:Int) (hpre:szP left):Zat Tryz.prog 258 [.ag [.int .i64 a.1, .int .i64 a.2.1, .str a.2.2], .c (.int .i64 left)] (.c (.int .i64 (szT left (bulk a)))) []:=by
  refine bc0 [] [] [] [] L0 Tryz.func258 (fun hwf=>?_)
  refine Eq.mpr (β:=(T10 (bif (ltI (w64 (left - (ByteArray.size a.2.2:Int))) 0) then (True∧(rI (-1) (szT left (bulk a)))) else (T2 (rI (w64 (left - (ByteArray.size a.2.2:Int))) (szT left (bulk a))))))) (by kernel_rfl) ?_
  obtain ⟨hp0,hp1⟩:=hpre
  have H0:=ZaW left (bulk a)
  have hb:bulk a=ByteArray.size a.2.2:=by
    have e:bulk a=0 + (0 + (ByteArray.size a.2.2)):=rfl
    omega
  have m2:ByteArray.size a.2.2≤maxLen:=hwf.1.2.2.1
  have w2:=Zg4 (left - ((ByteArray.size a.2.2:Nat):Int))
  exact ZcT
def ZDL:ZaI Tryz.prog:=⟨258,[.s ZaT, .v ZaC],fun x=>szP x.2.1,fun x=>.c (.int .i64 (szT x.2.1 (bulk x.1))),fun _=>[],fun x hx=>ZDK x.1 x.2.1 hx,Tryz.call258⟩
def ZBL (a:List ZcU) (left:Int):Nat→List AV→Mem→Zbn
  | 5,tm,M=>⟨Nat,fun y=>(ZcN (ZcV tm [(1, .c (.int .i64 (left - ((List.length a:Nat):Int) - ((ZaF (List.take y a):Nat):Int)))),(4, .any),(5, .c (.int .i64 ((y:Nat):Int)))]) 12 14,M),fun y=>(y≤List.length a∧((List.length a:Nat):Int) + ((ZaF (List.take y a):Nat):Int)≤left),fun y=>(List.length a - y)⟩
  | _,_,_=>⟨Unit,fun _=>([],[]),fun _=>False,fun _=>0⟩
theorem ZBM (a:List ZcU) (left:Int) (hpre:szP left):Zat Tryz.prog 212 [.c (.hs .no ZaT a), .c (.int .i64 left)] (.c (.int .i64 (szT left (bulk a)))) []:=by
  refine bc0 [ZDL] [] [] [] (ZBL a left) Tryz.func212 (fun hwf=>?_)
  refine Eq.mpr (β:=(T8 (bif (ltI (w64 (left - (List.length a:Int))) 0) then (True∧(rI (-1) (szT left (bulk a)))) else (True∧((∃ q:Nat,(q≤List.length a∧(List.length a:Int) + (ZaF (List.take q a):Int)≤left)∧((lxs [hn ZaT a] (vI (w64 (left - (List.length a:Int))) (left - (List.length a:Int) - (ZaF (List.take q a):Int))∧lxs [.tp [], .tp []] (True∧vI 0 q∧lxs [ci left,hn ZaT a,ci (List.length a),ci (w64 (left - (List.length a:Int))),ci (w64 (left - (List.length a:Int))), .c (.bool false)] (TN 14 (lxs [.tp []] True)))))∧pt (True)))∧∀ y0:Nat,(y0≤List.length a∧(List.length a:Int) + (ZaF (List.take y0 a):Int)≤left)→(T4 (bif (ltI y0 (List.length a)) then (T2 ((ix 3 y0 (List.length a))∧(T2 ((pt (szP (left - (List.length a:Int) - (ZaF (List.take y0 a):Int))))∧(T3 (bif (ltI (szT (left - (List.length a:Int) - (ZaF (List.take y0 a):Int)) (bulk (ZaL a y0))) 0) then (True∧(rI (-1) (szT left (bulk a)))) else (T3 (∃ y0' : Nat,(y0'≤List.length a∧(List.length a:Int) + (ZaF (List.take y0' a):Int)≤left)∧(List.length a - y0') < (List.length a - y0)∧((lxs [hn ZaT a] (vI (szT (left - (List.length a:Int) - (ZaF (List.take y0 a):Int)) (bulk (ZaL a y0))) (left - (List.length a:Int) - (ZaF (List.take y0' a):Int))∧lxs [.tp [], .tp []] (True∧vI (w64 ((y0:Int) + 1)) y0'∧lxs [ci left,hn ZaT a,ci (List.length a),ci (w64 (left - (List.length a:Int))),ci (w64 (left - (List.length a:Int))), .c (.bool false)] (TN 14 (lxs [.tp []] True)))))∧pt (True)))))))))) else (T2 (rI (left - (List.length a:Int) - (ZaF (List.take y0 a):Int)) (szT left (bulk a))))))))))) (by kernel_rfl) ?_
  unfold T2 T3 T4 T8
  obtain ⟨hp0,hp1⟩:=hpre
  have hm:a.length≤maxLen:=hwf.1.1
  have H0:=ZaW left (bulk a)
  have hb:bulk a=a.length + ZaF a:=rfl
  have w0:=Zg4 (left - ((List.length a:Nat):Int))
  unfold maxLen at hm
  have z0:ZaF (List.take 0 a)=0:=rfl
  have z1:ZaF (List.take a.length a)=ZaF a:=by rw [List.take_length]
  simp only [SIA,eq_self]
  refine ⟨fun h=>by omega,fun h=>⟨⟨0,⟨Nat.zero_le _,by omega⟩,?_⟩,fun k hk=>⟨fun hlt=>?_,fun hge=>?_⟩⟩⟩
  · exact Zgr
  · have hlt:k < a.length:=by omega
    have hk:=Zau (t:=ZaT) hlt
    have s1:ZaF (List.take (k + 1) a)=ZaF (List.take k a) + bulk (ZaL a k):=ZdU hk
    have s2:ZaF (List.take (k + 1) a)≤ZaF a:=ZgH a (k + 1)
    have k1:=ZbN (k:=k) (by unfold maxLen; omega)
    have w1:=ZaW (left - ((List.length a:Nat):Int) - ((ZaF (List.take k a):Nat):Int)) (bulk (ZaL a k))
    (try unfold maxLen at *)
    exact Zgo
  · exact Zgq
def ZBN:ZaI Tryz.prog:=⟨212,[.v (.list ZaT), .v ZaC],fun x=>szP x.2.1,fun x=>.c (.int .i64 (szT x.2.1 (bulk x.1))),fun _=>[],fun x hx=>ZBM x.1 x.2.1 hx,Tryz.call212⟩
theorem ZDM (a:ZaM) (left:Int) (hpre:szP left):Zat Tryz.prog 140 [.ag (cellsOf Zak a), .c (.int .i64 left)] (.c (.int .i64 (szT left (bulk a)))) []:=by
  refine bc0 [ZBN] [] [] [] L0 Tryz.func140 (fun hwf=>?_)
  refine Eq.mpr (β:=(T10 (bif (ltI (w64 (left - (ByteArray.size a.1:Int))) 0) then (True∧(rI (-1) (szT left (bulk a)))) else (T3 ((pt (szP (w64 (left - (ByteArray.size a.1:Int)))))∧(T3 (bif (ltI (szT (w64 (left - (ByteArray.size a.1:Int))) (bulk a.2.2.2)) 0) then (True∧(rI (-1) (szT left (bulk a)))) else (T2 (rI (szT (w64 (left - (ByteArray.size a.1:Int))) (bulk a.2.2.2)) (szT left (bulk a))))))))))) (by kernel_rfl) ?_
  obtain ⟨hp0,hp1⟩:=hpre
  have H0:=ZaW left (bulk a)
  have hb:bulk a=ByteArray.size a.1 + bulk a.2.2.2:=by
    have e:bulk a=ByteArray.size a.1 + (0 + (0 + (bulk a.2.2.2))):=rfl
    omega
  have m0:ByteArray.size a.1≤maxLen:=hwf.1.1
  have w0:=Zg4 (left - ((ByteArray.size a.1:Nat):Int))
  have w3:=ZaW (IntKind.wrap .i64 (left - ((ByteArray.size a.1:Nat):Int))) (bulk a.2.2.2)
  exact ZcT
def ZDN:ZaI Tryz.prog:=⟨140,[.s Zak, .v ZaC],fun x=>szP x.2.1,fun x=>.c (.int .i64 (szT x.2.1 (bulk x.1))),fun _=>[],fun x hx=>ZDM x.1 x.2.1 hx,Tryz.call140⟩
def ZBO (a:List ZaM) (left:Int):Nat→List AV→Mem→Zbn
  | 5,tm,M=>⟨Nat,fun y=>(ZcN (ZcV tm [(1, .c (.int .i64 (left - ((List.length a:Nat):Int) - ((ZaF (List.take y a):Nat):Int)))),(4, .any),(5, .c (.int .i64 ((y:Nat):Int)))]) 12 14,M),fun y=>(y≤List.length a∧((List.length a:Nat):Int) + ((ZaF (List.take y a):Nat):Int)≤left),fun y=>(List.length a - y)⟩
  | _,_,_=>⟨Unit,fun _=>([],[]),fun _=>False,fun _=>0⟩
theorem ZBP (a:List ZaM) (left:Int) (hpre:szP left):Zat Tryz.prog 64 [.c (.hs .no Zak a), .c (.int .i64 left)] (.c (.int .i64 (szT left (bulk a)))) []:=by
  refine bc0 [ZDN] [] [] [] (ZBO a left) Tryz.func64 (fun hwf=>?_)
  refine Eq.mpr (β:=(T8 (bif (ltI (w64 (left - (List.length a:Int))) 0) then (True∧(rI (-1) (szT left (bulk a)))) else (True∧((∃ q:Nat,(q≤List.length a∧(List.length a:Int) + (ZaF (List.take q a):Int)≤left)∧((lxs [hn Zak a] (vI (w64 (left - (List.length a:Int))) (left - (List.length a:Int) - (ZaF (List.take q a):Int))∧lxs [.tp [], .tp []] (True∧vI 0 q∧lxs [ci left,hn Zak a,ci (List.length a),ci (w64 (left - (List.length a:Int))),ci (w64 (left - (List.length a:Int))), .c (.bool false)] (TN 14 (lxs [.tp []] True)))))∧pt (True)))∧∀ y0:Nat,(y0≤List.length a∧(List.length a:Int) + (ZaF (List.take y0 a):Int)≤left)→(T4 (bif (ltI y0 (List.length a)) then (T2 ((ix 4 y0 (List.length a))∧(T2 ((pt (szP (left - (List.length a:Int) - (ZaF (List.take y0 a):Int))))∧(T3 (bif (ltI (szT (left - (List.length a:Int) - (ZaF (List.take y0 a):Int)) (bulk (Zab a y0))) 0) then (True∧(rI (-1) (szT left (bulk a)))) else (T3 (∃ y0' : Nat,(y0'≤List.length a∧(List.length a:Int) + (ZaF (List.take y0' a):Int)≤left)∧(List.length a - y0') < (List.length a - y0)∧((lxs [hn Zak a] (vI (szT (left - (List.length a:Int) - (ZaF (List.take y0 a):Int)) (bulk (Zab a y0))) (left - (List.length a:Int) - (ZaF (List.take y0' a):Int))∧lxs [.tp [], .tp []] (True∧vI (w64 ((y0:Int) + 1)) y0'∧lxs [ci left,hn Zak a,ci (List.length a),ci (w64 (left - (List.length a:Int))),ci (w64 (left - (List.length a:Int))), .c (.bool false)] (TN 14 (lxs [.tp []] True)))))∧pt (True)))))))))) else (T2 (rI (left - (List.length a:Int) - (ZaF (List.take y0 a):Int)) (szT left (bulk a))))))))))) (by kernel_rfl) ?_
  unfold T2 T3 T4 T8
  obtain ⟨hp0,hp1⟩:=hpre
  have hm:a.length≤maxLen:=hwf.1.1
  have H0:=ZaW left (bulk a)
  have hb:bulk a=a.length + ZaF a:=rfl
  have w0:=Zg4 (left - ((List.length a:Nat):Int))
  unfold maxLen at hm
  have z0:ZaF (List.take 0 a)=0:=rfl
  have z1:ZaF (List.take a.length a)=ZaF a:=by rw [List.take_length]
  simp only [SIA,eq_self]
  refine ⟨fun h=>by omega,fun h=>⟨⟨0,⟨Nat.zero_le _,by omega⟩,?_⟩,fun k hk=>⟨fun hlt=>?_,fun hge=>?_⟩⟩⟩
  · exact Zgr
  · have hlt:k < a.length:=by omega
    have hk:=Zau (t:=Zak) hlt
    have s1:ZaF (List.take (k + 1) a)=ZaF (List.take k a) + bulk (Zab a k):=ZdU hk
    have s2:ZaF (List.take (k + 1) a)≤ZaF a:=ZgH a (k + 1)
    have k1:=ZbN (k:=k) (by unfold maxLen; omega)
    have w1:=ZaW (left - ((List.length a:Nat):Int) - ((ZaF (List.take k a):Nat):Int)) (bulk (Zab a k))
    (try unfold maxLen at *)
    exact Zgo
  · exact Zgq
def ZBQ:ZaI Tryz.prog:=⟨64,[.v (.list Zak), .v ZaC],fun x=>szP x.2.1,fun x=>.c (.int .i64 (szT x.2.1 (bulk x.1))),fun _=>[],fun x hx=>ZBP x.1 x.2.1 hx,Tryz.call64⟩
theorem Zua (a:Zax) (left:Int) (hpre:szP left):Zat Tryz.prog 141 [.ag (cellsOf Zah a), .c (.int .i64 left)] (.c (.int .i64 (szT left (bulk a)))) []:=by
  refine bc0 [] [] [] [] L0 Tryz.func141 (fun hwf=>?_)
  refine Eq.mpr (β:=(T10 (bif (ltI (w64 (left - (ByteArray.size a.2.2.2.2.1:Int))) 0) then (True∧(rI (-1) (szT left (bulk a)))) else (T8 (bif (ltI (w64 ((w64 (left - (ByteArray.size a.2.2.2.2.1:Int))) - (ByteArray.size a.2.2.2.2.2:Int))) 0) then (True∧(rI (-1) (szT left (bulk a)))) else (T2 (rI (w64 ((w64 (left - (ByteArray.size a.2.2.2.2.1:Int))) - (ByteArray.size a.2.2.2.2.2:Int))) (szT left (bulk a))))))))) (by kernel_rfl) ?_
  obtain ⟨hp0,hp1⟩:=hpre
  have H0:=ZaW left (bulk a)
  have hb:bulk a=ByteArray.size a.2.2.2.2.1 + ByteArray.size a.2.2.2.2.2:=by
    have e:bulk a=0 + (0 + (0 + (0 + (ByteArray.size a.2.2.2.2.1 + (ByteArray.size a.2.2.2.2.2))))):=rfl
    omega
  have m4:ByteArray.size a.2.2.2.2.1≤maxLen:=hwf.1.2.2.2.2.1
  have m5:ByteArray.size a.2.2.2.2.2≤maxLen:=hwf.1.2.2.2.2.2.1
  have w4:=Zg4 (left - ((ByteArray.size a.2.2.2.2.1:Nat):Int))
  have w5:=Zg4 ((IntKind.wrap .i64 (left - ((ByteArray.size a.2.2.2.2.1:Nat):Int))) - ((ByteArray.size a.2.2.2.2.2:Nat):Int))
  exact ZcT
def Zub:ZaI Tryz.prog:=⟨141,[.s Zah, .v ZaC],fun x=>szP x.2.1,fun x=>.c (.int .i64 (szT x.2.1 (bulk x.1))),fun _=>[],fun x hx=>Zua x.1 x.2.1 hx,Tryz.call141⟩
def Zse (a:List Zax) (left:Int):Nat→List AV→Mem→Zbn
  | 5,tm,M=>⟨Nat,fun y=>(ZcN (ZcV tm [(1, .c (.int .i64 (left - ((List.length a:Nat):Int) - ((ZaF (List.take y a):Nat):Int)))),(4, .any),(5, .c (.int .i64 ((y:Nat):Int)))]) 12 14,M),fun y=>(y≤List.length a∧((List.length a:Nat):Int) + ((ZaF (List.take y a):Nat):Int)≤left),fun y=>(List.length a - y)⟩
  | _,_,_=>⟨Unit,fun _=>([],[]),fun _=>False,fun _=>0⟩
theorem Zsf (a:List Zax) (left:Int) (hpre:szP left):Zat Tryz.prog 65 [.c (.hs .no Zah a), .c (.int .i64 left)] (.c (.int .i64 (szT left (bulk a)))) []:=by
  refine bc0 [Zub] [] [] [] (Zse a left) Tryz.func65 (fun hwf=>?_)
  refine Eq.mpr (β:=(T8 (bif (ltI (w64 (left - (List.length a:Int))) 0) then (True∧(rI (-1) (szT left (bulk a)))) else (True∧((∃ q:Nat,(q≤List.length a∧(List.length a:Int) + (ZaF (List.take q a):Int)≤left)∧((lxs [hn Zah a] (vI (w64 (left - (List.length a:Int))) (left - (List.length a:Int) - (ZaF (List.take q a):Int))∧lxs [.tp [], .tp []] (True∧vI 0 q∧lxs [ci left,hn Zah a,ci (List.length a),ci (w64 (left - (List.length a:Int))),ci (w64 (left - (List.length a:Int))), .c (.bool false)] (TN 14 (lxs [.tp []] True)))))∧pt (True)))∧∀ y0:Nat,(y0≤List.length a∧(List.length a:Int) + (ZaF (List.take y0 a):Int)≤left)→(T4 (bif (ltI y0 (List.length a)) then (T2 ((ix 6 y0 (List.length a))∧(T2 ((pt (szP (left - (List.length a:Int) - (ZaF (List.take y0 a):Int))))∧(T3 (bif (ltI (szT (left - (List.length a:Int) - (ZaF (List.take y0 a):Int)) (bulk (Zac a y0))) 0) then (True∧(rI (-1) (szT left (bulk a)))) else (T3 (∃ y0' : Nat,(y0'≤List.length a∧(List.length a:Int) + (ZaF (List.take y0' a):Int)≤left)∧(List.length a - y0') < (List.length a - y0)∧((lxs [hn Zah a] (vI (szT (left - (List.length a:Int) - (ZaF (List.take y0 a):Int)) (bulk (Zac a y0))) (left - (List.length a:Int) - (ZaF (List.take y0' a):Int))∧lxs [.tp [], .tp []] (True∧vI (w64 ((y0:Int) + 1)) y0'∧lxs [ci left,hn Zah a,ci (List.length a),ci (w64 (left - (List.length a:Int))),ci (w64 (left - (List.length a:Int))), .c (.bool false)] (TN 14 (lxs [.tp []] True)))))∧pt (True)))))))))) else (T2 (rI (left - (List.length a:Int) - (ZaF (List.take y0 a):Int)) (szT left (bulk a))))))))))) (by kernel_rfl) ?_
  unfold T2 T3 T4 T8
  obtain ⟨hp0,hp1⟩:=hpre
  have hm:a.length≤maxLen:=hwf.1.1
  have H0:=ZaW left (bulk a)
  have hb:bulk a=a.length + ZaF a:=rfl
  have w0:=Zg4 (left - ((List.length a:Nat):Int))
  unfold maxLen at hm
  have z0:ZaF (List.take 0 a)=0:=rfl
  have z1:ZaF (List.take a.length a)=ZaF a:=by rw [List.take_length]
  simp only [SIA,eq_self]
  refine ⟨fun h=>by omega,fun h=>⟨⟨0,⟨Nat.zero_le _,by omega⟩,?_⟩,fun k hk=>⟨fun hlt=>?_,fun hge=>?_⟩⟩⟩
  · exact Zgr
  · have hlt:k < a.length:=by omega
    have hk:=Zau (t:=Zah) hlt
    have s1:ZaF (List.take (k + 1) a)=ZaF (List.take k a) + bulk (Zac a k):=ZdU hk
    have s2:ZaF (List.take (k + 1) a)≤ZaF a:=ZgH a (k + 1)
    have k1:=ZbN (k:=k) (by unfold maxLen; omega)
    have w1:=ZaW (left - ((List.length a:Nat):Int) - ((ZaF (List.take k a):Nat):Int)) (bulk (Zac a k))
    (try unfold maxLen at *)
    exact Zgo
  · exact Zgq
def Zsg:ZaI Tryz.prog:=⟨65,[.v (.list Zah), .v ZaC],fun x=>szP x.2.1,fun x=>.c (.int .i64 (szT x.2.1 (bulk x.1))),fun _=>[],fun x hx=>Zsf x.1 x.2.1 hx,Tryz.call65⟩
theorem ZyV (a:Za7) (left:Int) (hpre:szP left):Zat Tryz.prog 29 [.ag (cellsOf ZbI a), .c (.int .i64 left)] (.c (.int .i64 (szT left (bulk a)))) []:=by
  refine bc0 [ZBQ,Zsg] [] [] [] L0 Tryz.func29 (fun hwf=>?_)
  refine Eq.mpr (β:=(T5 ((pt (szP left))∧(T3 (bif (ltI (szT left (bulk a.1)) 0) then (True∧(rI (-1) (szT left (bulk a)))) else (T3 ((pt (szP (szT left (bulk a.1))))∧(T3 (bif (ltI (szT (szT left (bulk a.1)) (bulk a.2.1)) 0) then (True∧(rI (-1) (szT left (bulk a)))) else (T2 (rI (szT (szT left (bulk a.1)) (bulk a.2.1)) (szT left (bulk a))))))))))))) (by kernel_rfl) ?_
  obtain ⟨hp0,hp1⟩:=hpre
  have H0:=ZaW left (bulk a)
  have hb:bulk a=bulk a.1 + bulk a.2.1:=by
    have e:bulk a=bulk a.1 + (bulk a.2.1 + (0)):=rfl
    omega
  have w0:=ZaW left (bulk a.1)
  have w1:=ZaW (szT left (bulk a.1)) (bulk a.2.1)
  exact ZcT
def ZyW:ZaI Tryz.prog:=⟨29,[.s ZbI, .v ZaC],fun x=>szP x.2.1,fun x=>.c (.int .i64 (szT x.2.1 (bulk x.1))),fun _=>[],fun x hx=>ZyV x.1 x.2.1 hx,Tryz.call29⟩
theorem ZyX (a:List Zb9) (left:Int) (hpre:szP left):Zat Tryz.prog 213 [.c (.hs .no ZaN a), .c (.int .i64 left)] (.c (.int .i64 (szT left (bulk a)))) []:=by
  refine bc0 [] [] [] [] L0 Tryz.func213 (fun hwf=>?_)
  refine Eq.mpr (β:=(T8 (bif (ltI (w64 (left - (List.length a:Int))) 0) then (True∧(rI (-1) (szT left (bulk a)))) else (T2 (rI (w64 (left - (List.length a:Int))) (szT left (bulk a))))))) (by kernel_rfl) ?_
  obtain ⟨hp0,hp1⟩:=hpre
  have hm:a.length≤maxLen:=hwf.1.1
  have H0:=ZaW left (bulk a)
  have hb:bulk a=a.length + ZaF a:=rfl
  have w0:=Zg4 (left - ((List.length a:Nat):Int))
  unfold maxLen at hm
  have z1:ZaF a=0:=Zrk (fun _=>rfl) a
  exact Zci
def ZyY:ZaI Tryz.prog:=⟨213,[.v (.list ZaN), .v ZaC],fun x=>szP x.2.1,fun x=>.c (.int .i64 (szT x.2.1 (bulk x.1))),fun _=>[],fun x hx=>ZyX x.1 x.2.1 hx,Tryz.call213⟩
theorem ZBR (a:List Zb9) (left:Int) (hpre:szP left):Zat Tryz.prog 142 [.ag [.hs .no ZaN a], .c (.int .i64 left)] (.c (.int .i64 (szT left (bulk a)))) []:=by
  refine bc0 [ZyY] [] [] [] L0 Tryz.func142 (fun hwf=>?_)
  refine Eq.mpr (β:=(T5 ((pt (szP left))∧(T3 (bif (ltI (szT left (bulk a)) 0) then (True∧(rI (-1) (szT left (bulk a)))) else (T2 (rI (szT left (bulk a)) (szT left (bulk a))))))))) (by kernel_rfl) ?_
  obtain ⟨hp0,hp1⟩:=hpre
  have H0:=ZaW left (bulk a)
  have hb:bulk a=bulk a:=by
    have e:bulk a=bulk a:=rfl
    omega
  have w0:=ZaW left (bulk a)
  exact ZcT
def ZBS:ZaI Tryz.prog:=⟨142,[.s (.list ZaN), .v ZaC],fun x=>szP x.2.1,fun x=>.c (.int .i64 (szT x.2.1 (bulk x.1))),fun _=>[],fun x hx=>ZBR x.1 x.2.1 hx,Tryz.call142⟩
theorem ZBT (a:Zay) (left:Int) (hpre:szP left):Zat Tryz.prog 260 [.ag (cellsOf Zai a), .c (.int .i64 left)] (.c (.int .i64 (szT left (bulk a)))) []:=by
  refine bc0 [] [] [] [] L0 Tryz.func260 (fun hwf=>?_)
  refine Eq.mpr (β:=(T10 (bif (ltI (w64 (left - (ByteArray.size a.2.2.2:Int))) 0) then (True∧(rI (-1) (szT left (bulk a)))) else (T2 (rI (w64 (left - (ByteArray.size a.2.2.2:Int))) (szT left (bulk a))))))) (by kernel_rfl) ?_
  obtain ⟨hp0,hp1⟩:=hpre
  have H0:=ZaW left (bulk a)
  have hb:bulk a=ByteArray.size a.2.2.2:=by
    have e:bulk a=0 + (0 + (0 + (ByteArray.size a.2.2.2))):=rfl
    omega
  have m3:ByteArray.size a.2.2.2≤maxLen:=hwf.1.2.2.2.1
  have w3:=Zg4 (left - ((ByteArray.size a.2.2.2:Nat):Int))
  exact ZcT
def ZBU:ZaI Tryz.prog:=⟨260,[.s Zai, .v ZaC],fun x=>szP x.2.1,fun x=>.c (.int .i64 (szT x.2.1 (bulk x.1))),fun _=>[],fun x hx=>ZBT x.1 x.2.1 hx,Tryz.call260⟩
def ZyZ (a:List Zay) (left:Int):Nat→List AV→Mem→Zbn
  | 5,tm,M=>⟨Nat,fun y=>(ZcN (ZcV tm [(1, .c (.int .i64 (left - ((List.length a:Nat):Int) - ((ZaF (List.take y a):Nat):Int)))),(4, .any),(5, .c (.int .i64 ((y:Nat):Int)))]) 12 14,M),fun y=>(y≤List.length a∧((List.length a:Nat):Int) + ((ZaF (List.take y a):Nat):Int)≤left),fun y=>(List.length a - y)⟩
  | _,_,_=>⟨Unit,fun _=>([],[]),fun _=>False,fun _=>0⟩
theorem Zy0 (a:List Zay) (left:Int) (hpre:szP left):Zat Tryz.prog 215 [.c (.hs .no Zai a), .c (.int .i64 left)] (.c (.int .i64 (szT left (bulk a)))) []:=by
  refine bc0 [ZBU] [] [] [] (ZyZ a left) Tryz.func215 (fun hwf=>?_)
  refine Eq.mpr (β:=(T8 (bif (ltI (w64 (left - (List.length a:Int))) 0) then (True∧(rI (-1) (szT left (bulk a)))) else (True∧((∃ q:Nat,(q≤List.length a∧(List.length a:Int) + (ZaF (List.take q a):Int)≤left)∧((lxs [hn Zai a] (vI (w64 (left - (List.length a:Int))) (left - (List.length a:Int) - (ZaF (List.take q a):Int))∧lxs [.tp [], .tp []] (True∧vI 0 q∧lxs [ci left,hn Zai a,ci (List.length a),ci (w64 (left - (List.length a:Int))),ci (w64 (left - (List.length a:Int))), .c (.bool false)] (TN 14 (lxs [.tp []] True)))))∧pt (True)))∧∀ y0:Nat,(y0≤List.length a∧(List.length a:Int) + (ZaF (List.take y0 a):Int)≤left)→(T4 (bif (ltI y0 (List.length a)) then (T2 ((ix 4 y0 (List.length a))∧(T2 ((pt (szP (left - (List.length a:Int) - (ZaF (List.take y0 a):Int))))∧(T3 (bif (ltI (szT (left - (List.length a:Int) - (ZaF (List.take y0 a):Int)) (bulk (Zaf a y0))) 0) then (True∧(rI (-1) (szT left (bulk a)))) else (T3 (∃ y0' : Nat,(y0'≤List.length a∧(List.length a:Int) + (ZaF (List.take y0' a):Int)≤left)∧(List.length a - y0') < (List.length a - y0)∧((lxs [hn Zai a] (vI (szT (left - (List.length a:Int) - (ZaF (List.take y0 a):Int)) (bulk (Zaf a y0))) (left - (List.length a:Int) - (ZaF (List.take y0' a):Int))∧lxs [.tp [], .tp []] (True∧vI (w64 ((y0:Int) + 1)) y0'∧lxs [ci left,hn Zai a,ci (List.length a),ci (w64 (left - (List.length a:Int))),ci (w64 (left - (List.length a:Int))), .c (.bool false)] (TN 14 (lxs [.tp []] True)))))∧pt (True)))))))))) else (T2 (rI (left - (List.length a:Int) - (ZaF (List.take y0 a):Int)) (szT left (bulk a))))))))))) (by kernel_rfl) ?_
  unfold T2 T3 T4 T8
  obtain ⟨hp0,hp1⟩:=hpre
  have hm:a.length≤maxLen:=hwf.1.1
  have H0:=ZaW left (bulk a)
  have hb:bulk a=a.length + ZaF a:=rfl
  have w0:=Zg4 (left - ((List.length a:Nat):Int))
  unfold maxLen at hm
  have z0:ZaF (List.take 0 a)=0:=rfl
  have z1:ZaF (List.take a.length a)=ZaF a:=by rw [List.take_length]
  simp only [SIA,eq_self]
  refine ⟨fun h=>by omega,fun h=>⟨⟨0,⟨Nat.zero_le _,by omega⟩,?_⟩,fun k hk=>⟨fun hlt=>?_,fun hge=>?_⟩⟩⟩
  · exact Zgr
  · have hlt:k < a.length:=by omega
    have hk:=Zau (t:=Zai) hlt
    have s1:ZaF (List.take (k + 1) a)=ZaF (List.take k a) + bulk (Zaf a k):=ZdU hk
    have s2:ZaF (List.take (k + 1) a)≤ZaF a:=ZgH a (k + 1)
    have k1:=ZbN (k:=k) (by unfold maxLen; omega)
    have w1:=ZaW (left - ((List.length a:Nat):Int) - ((ZaF (List.take k a):Nat):Int)) (bulk (Zaf a k))
    (try unfold maxLen at *)
    exact Zgo
  · exact Zgq
def Zy1:ZaI Tryz.prog:=⟨215,[.v (.list Zai), .v ZaC],fun x=>szP x.2.1,fun x=>.c (.int .i64 (szT x.2.1 (bulk x.1))),fun _=>[],fun x hx=>Zy0 x.1 x.2.1 hx,Tryz.call215⟩
theorem Zy2 (a:ZaU) (left:Int) (hpre:szP left):Zat Tryz.prog 144 [.ag [.hs .no Zai a.1, .bool a.2.1, .bool a.2.2], .c (.int .i64 left)] (.c (.int .i64 (szT left (bulk a)))) []:=by
  refine bc0 [Zy1] [] [] [] L0 Tryz.func144 (fun hwf=>?_)
  refine Eq.mpr (β:=(T5 ((pt (szP left))∧(T3 (bif (ltI (szT left (bulk a.1)) 0) then (True∧(rI (-1) (szT left (bulk a)))) else (T2 (rI (szT left (bulk a.1)) (szT left (bulk a))))))))) (by kernel_rfl) ?_
  obtain ⟨hp0,hp1⟩:=hpre
  have H0:=ZaW left (bulk a)
  have hb:bulk a=bulk a.1:=by
    have e:bulk a=bulk a.1 + (0 + (0)):=rfl
    omega
  have w0:=ZaW left (bulk a.1)
  exact ZcT
def Zy3:ZaI Tryz.prog:=⟨144,[.s ZbJ, .v ZaC],fun x=>szP x.2.1,fun x=>.c (.int .i64 (szT x.2.1 (bulk x.1))),fun _=>[],fun x hx=>Zy2 x.1 x.2.1 hx,Tryz.call144⟩
theorem ZDO (a:Zxj) (left:Int) (hpre:szP left):Zat Tryz.prog 146 [.ag [.str a.1, .str a.2], .c (.int .i64 left)] (.c (.int .i64 (szT left (bulk a)))) []:=by
  refine bc0 [] [] [] [] L0 Tryz.func146 (fun hwf=>?_)
  refine Eq.mpr (β:=(T10 (bif (ltI (w64 (left - (ByteArray.size a.1:Int))) 0) then (True∧(rI (-1) (szT left (bulk a)))) else (T8 (bif (ltI (w64 ((w64 (left - (ByteArray.size a.1:Int))) - (ByteArray.size a.2:Int))) 0) then (True∧(rI (-1) (szT left (bulk a)))) else (T2 (rI (w64 ((w64 (left - (ByteArray.size a.1:Int))) - (ByteArray.size a.2:Int))) (szT left (bulk a))))))))) (by kernel_rfl) ?_
  obtain ⟨hp0,hp1⟩:=hpre
  have H0:=ZaW left (bulk a)
  have hb:bulk a=ByteArray.size a.1 + ByteArray.size a.2:=by
    have e:bulk a=ByteArray.size a.1 + (ByteArray.size a.2):=rfl
    omega
  have m0:ByteArray.size a.1≤maxLen:=hwf.1.1
  have m1:ByteArray.size a.2≤maxLen:=hwf.1.2.1
  have w0:=Zg4 (left - ((ByteArray.size a.1:Nat):Int))
  have w1:=Zg4 ((IntKind.wrap .i64 (left - ((ByteArray.size a.1:Nat):Int))) - ((ByteArray.size a.2:Nat):Int))
  exact ZcT
def ZDP:ZaI Tryz.prog:=⟨146,[.s Zm4, .v ZaC],fun x=>szP x.2.1,fun x=>.c (.int .i64 (szT x.2.1 (bulk x.1))),fun _=>[],fun x hx=>ZDO x.1 x.2.1 hx,Tryz.call146⟩
theorem ZFL (a:GIn) (left:Int) (hpre:szP left):Zat Tryz.prog 145 [.ag [.str a.1, .bool a.2], .c (.int .i64 left)] (.c (.int .i64 (szT left (bulk a)))) []:=by
  refine bc0 [] [] [] [] L0 Tryz.func145 (fun hwf=>?_)
  refine Eq.mpr (β:=(T10 (bif (ltI (w64 (left - (ByteArray.size a.1:Int))) 0) then (True∧(rI (-1) (szT left (bulk a)))) else (T2 (rI (w64 (left - (ByteArray.size a.1:Int))) (szT left (bulk a))))))) (by kernel_rfl) ?_
  obtain ⟨hp0,hp1⟩:=hpre
  have H0:=ZaW left (bulk a)
  have hb:bulk a=ByteArray.size a.1:=by
    have e:bulk a=ByteArray.size a.1 + (0):=rfl
    omega
  have m0:ByteArray.size a.1≤maxLen:=hwf.1.1
  have w0:=Zg4 (left - ((ByteArray.size a.1:Nat):Int))
  exact ZcT
def ZFM:ZaI Tryz.prog:=⟨145,[.s ZCX, .v ZaC],fun x=>szP x.2.1,fun x=>.c (.int .i64 (szT x.2.1 (bulk x.1))),fun _=>[],fun x hx=>ZFL x.1 x.2.1 hx,Tryz.call145⟩
theorem Zsh (a:Zal) (left:Int) (hpre:szP left):Zat Tryz.prog 66 [.ag (cellsOf Zae a), .c (.int .i64 left)] (.c (.int .i64 (szT left (bulk a)))) []:=by
  refine bc0 [ZBS,Zt9,Zy3,ZFM,ZDP] [] [] [] L0 Tryz.func66 (fun hwf=>?_)
  refine Eq.mpr (β:=(T5 ((pt (szP left))∧(T3 (bif (ltI (szT left (bulk a.2.2.2.2.1)) 0) then (True∧(rI (-1) (szT left (bulk a)))) else (T3 ((pt (szP (szT left (bulk a.2.2.2.2.1))))∧(T3 (bif (ltI (szT (szT left (bulk a.2.2.2.2.1)) (bulk a.2.2.2.2.2.1)) 0) then (True∧(rI (-1) (szT left (bulk a)))) else (T8 (bif (ltI (w64 (szT (szT left (bulk a.2.2.2.2.1)) (bulk a.2.2.2.2.2.1) - (ByteArray.size a.2.2.2.2.2.2.1:Int))) 0) then (True∧(rI (-1) (szT left (bulk a)))) else (T8 (bif (ltI (w64 ((w64 (szT (szT left (bulk a.2.2.2.2.1)) (bulk a.2.2.2.2.2.1) - (ByteArray.size a.2.2.2.2.2.2.1:Int))) - (ByteArray.size a.2.2.2.2.2.2.2.1:Int))) 0) then (True∧(rI (-1) (szT left (bulk a)))) else (T3 ((pt (szP (w64 ((w64 (szT (szT left (bulk a.2.2.2.2.1)) (bulk a.2.2.2.2.2.1) - (ByteArray.size a.2.2.2.2.2.2.1:Int))) - (ByteArray.size a.2.2.2.2.2.2.2.1:Int)))))∧(T3 (bif (ltI (szT (w64 ((w64 (szT (szT left (bulk a.2.2.2.2.1)) (bulk a.2.2.2.2.2.1) - (ByteArray.size a.2.2.2.2.2.2.1:Int))) - (ByteArray.size a.2.2.2.2.2.2.2.1:Int))) (bulk a.2.2.2.2.2.2.2.2.1)) 0) then (True∧(rI (-1) (szT left (bulk a)))) else (T3 ((pt (szP (szT (w64 ((w64 (szT (szT left (bulk a.2.2.2.2.1)) (bulk a.2.2.2.2.2.1) - (ByteArray.size a.2.2.2.2.2.2.1:Int))) - (ByteArray.size a.2.2.2.2.2.2.2.1:Int))) (bulk a.2.2.2.2.2.2.2.2.1))))∧(T3 (bif (ltI (szT (szT (w64 ((w64 (szT (szT left (bulk a.2.2.2.2.1)) (bulk a.2.2.2.2.2.1) - (ByteArray.size a.2.2.2.2.2.2.1:Int))) - (ByteArray.size a.2.2.2.2.2.2.2.1:Int))) (bulk a.2.2.2.2.2.2.2.2.1)) (bulk a.2.2.2.2.2.2.2.2.2.1)) 0) then (True∧(rI (-1) (szT left (bulk a)))) else (T3 ((pt (szP (szT (szT (w64 ((w64 (szT (szT left (bulk a.2.2.2.2.1)) (bulk a.2.2.2.2.2.1) - (ByteArray.size a.2.2.2.2.2.2.1:Int))) - (ByteArray.size a.2.2.2.2.2.2.2.1:Int))) (bulk a.2.2.2.2.2.2.2.2.1)) (bulk a.2.2.2.2.2.2.2.2.2.1))))∧(T3 (bif (ltI (szT (szT (szT (w64 ((w64 (szT (szT left (bulk a.2.2.2.2.1)) (bulk a.2.2.2.2.2.1) - (ByteArray.size a.2.2.2.2.2.2.1:Int))) - (ByteArray.size a.2.2.2.2.2.2.2.1:Int))) (bulk a.2.2.2.2.2.2.2.2.1)) (bulk a.2.2.2.2.2.2.2.2.2.1)) (bulk a.2.2.2.2.2.2.2.2.2.2.1)) 0) then (True∧(rI (-1) (szT left (bulk a)))) else (T2 (rI (szT (szT (szT (w64 ((w64 (szT (szT left (bulk a.2.2.2.2.1)) (bulk a.2.2.2.2.2.1) - (ByteArray.size a.2.2.2.2.2.2.1:Int))) - (ByteArray.size a.2.2.2.2.2.2.2.1:Int))) (bulk a.2.2.2.2.2.2.2.2.1)) (bulk a.2.2.2.2.2.2.2.2.2.1)) (bulk a.2.2.2.2.2.2.2.2.2.2.1)) (szT left (bulk a))))))))))))))))))))))))))))) (by kernel_rfl) ?_
  unfold T2 T3 T5 T8
  obtain ⟨hp0,hp1⟩:=hpre
  have H0:=ZaW left (bulk a)
  have hb:bulk a=bulk a.2.2.2.2.1 + bulk a.2.2.2.2.2.1 + ByteArray.size a.2.2.2.2.2.2.1 + ByteArray.size a.2.2.2.2.2.2.2.1 + bulk a.2.2.2.2.2.2.2.2.1 + bulk a.2.2.2.2.2.2.2.2.2.1 + bulk a.2.2.2.2.2.2.2.2.2.2.1:=by
    have e:bulk a=0 + (0 + (0 + (0 + (bulk a.2.2.2.2.1 + (bulk a.2.2.2.2.2.1 + (ByteArray.size a.2.2.2.2.2.2.1 + (ByteArray.size a.2.2.2.2.2.2.2.1 + (bulk a.2.2.2.2.2.2.2.2.1 + (bulk a.2.2.2.2.2.2.2.2.2.1 + (bulk a.2.2.2.2.2.2.2.2.2.2.1 + (0))))))))))):=rfl
    omega
  have m6:ByteArray.size a.2.2.2.2.2.2.1≤maxLen:=hwf.1.2.2.2.2.2.2.2.1
  have m7:ByteArray.size a.2.2.2.2.2.2.2.1≤maxLen:=hwf.1.2.2.2.2.2.2.2.2.1
  have w4:=ZaW left (bulk a.2.2.2.2.1)
  have w5:=ZaW (szT left (bulk a.2.2.2.2.1)) (bulk a.2.2.2.2.2.1)
  have w6:=Zg4 ((szT (szT left (bulk a.2.2.2.2.1)) (bulk a.2.2.2.2.2.1)) - ((ByteArray.size a.2.2.2.2.2.2.1:Nat):Int))
  have w7:=Zg4 ((IntKind.wrap .i64 ((szT (szT left (bulk a.2.2.2.2.1)) (bulk a.2.2.2.2.2.1)) - ((ByteArray.size a.2.2.2.2.2.2.1:Nat):Int))) - ((ByteArray.size a.2.2.2.2.2.2.2.1:Nat):Int))
  have w8:=ZaW (IntKind.wrap .i64 ((IntKind.wrap .i64 ((szT (szT left (bulk a.2.2.2.2.1)) (bulk a.2.2.2.2.2.1)) - ((ByteArray.size a.2.2.2.2.2.2.1:Nat):Int))) - ((ByteArray.size a.2.2.2.2.2.2.2.1:Nat):Int))) (bulk a.2.2.2.2.2.2.2.2.1)
  have w9:=ZaW (szT (IntKind.wrap .i64 ((IntKind.wrap .i64 ((szT (szT left (bulk a.2.2.2.2.1)) (bulk a.2.2.2.2.2.1)) - ((ByteArray.size a.2.2.2.2.2.2.1:Nat):Int))) - ((ByteArray.size a.2.2.2.2.2.2.2.1:Nat):Int))) (bulk a.2.2.2.2.2.2.2.2.1)) (bulk a.2.2.2.2.2.2.2.2.2.1)
  have w10:=ZaW (szT (szT (IntKind.wrap .i64 ((IntKind.wrap .i64 ((szT (szT left (bulk a.2.2.2.2.1)) (bulk a.2.2.2.2.2.1)) - ((ByteArray.size a.2.2.2.2.2.2.1:Nat):Int))) - ((ByteArray.size a.2.2.2.2.2.2.2.1:Nat):Int))) (bulk a.2.2.2.2.2.2.2.2.1)) (bulk a.2.2.2.2.2.2.2.2.2.1)) (bulk a.2.2.2.2.2.2.2.2.2.2.1)
  exact ZcT
def Zsi:ZaI Tryz.prog:=⟨66,[.s Zae, .v ZaC],fun x=>szP x.2.1,fun x=>.c (.int .i64 (szT x.2.1 (bulk x.1))),fun _=>[],fun x hx=>Zsh x.1 x.2.1 hx,Tryz.call66⟩
def Zqf (a:List Zal) (left:Int):Nat→List AV→Mem→Zbn
  | 5,tm,M=>⟨Nat,fun y=>(ZcN (ZcV tm [(1, .c (.int .i64 (left - ((List.length a:Nat):Int) - ((ZaF (List.take y a):Nat):Int)))),(4, .any),(5, .c (.int .i64 ((y:Nat):Int)))]) 12 14,M),fun y=>(y≤List.length a∧((List.length a:Nat):Int) + ((ZaF (List.take y a):Nat):Int)≤left),fun y=>(List.length a - y)⟩
  | _,_,_=>⟨Unit,fun _=>([],[]),fun _=>False,fun _=>0⟩
theorem Zqg (a:List Zal) (left:Int) (hpre:szP left):Zat Tryz.prog 30 [.c (.hs .no Zae a), .c (.int .i64 left)] (.c (.int .i64 (szT left (bulk a)))) []:=by
  refine bc0 [Zsi] [] [] [] (Zqf a left) Tryz.func30 (fun hwf=>?_)
  refine Eq.mpr (β:=(T8 (bif (ltI (w64 (left - (List.length a:Int))) 0) then (True∧(rI (-1) (szT left (bulk a)))) else (True∧((∃ q:Nat,(q≤List.length a∧(List.length a:Int) + (ZaF (List.take q a):Int)≤left)∧((lxs [hn Zae a] (vI (w64 (left - (List.length a:Int))) (left - (List.length a:Int) - (ZaF (List.take q a):Int))∧lxs [.tp [], .tp []] (True∧vI 0 q∧lxs [ci left,hn Zae a,ci (List.length a),ci (w64 (left - (List.length a:Int))),ci (w64 (left - (List.length a:Int))), .c (.bool false)] (TN 14 (lxs [.tp []] True)))))∧pt (True)))∧∀ y0:Nat,(y0≤List.length a∧(List.length a:Int) + (ZaF (List.take y0 a):Int)≤left)→(T4 (bif (ltI y0 (List.length a)) then (T2 ((ix 17 y0 (List.length a))∧(T2 ((pt (szP (left - (List.length a:Int) - (ZaF (List.take y0 a):Int))))∧(T3 (bif (ltI (szT (left - (List.length a:Int) - (ZaF (List.take y0 a):Int)) (bulk (Zaa a y0))) 0) then (True∧(rI (-1) (szT left (bulk a)))) else (T3 (∃ y0' : Nat,(y0'≤List.length a∧(List.length a:Int) + (ZaF (List.take y0' a):Int)≤left)∧(List.length a - y0') < (List.length a - y0)∧((lxs [hn Zae a] (vI (szT (left - (List.length a:Int) - (ZaF (List.take y0 a):Int)) (bulk (Zaa a y0))) (left - (List.length a:Int) - (ZaF (List.take y0' a):Int))∧lxs [.tp [], .tp []] (True∧vI (w64 ((y0:Int) + 1)) y0'∧lxs [ci left,hn Zae a,ci (List.length a),ci (w64 (left - (List.length a:Int))),ci (w64 (left - (List.length a:Int))), .c (.bool false)] (TN 14 (lxs [.tp []] True)))))∧pt (True)))))))))) else (T2 (rI (left - (List.length a:Int) - (ZaF (List.take y0 a):Int)) (szT left (bulk a))))))))))) (by kernel_rfl) ?_
  unfold T2 T3 T4 T8
  obtain ⟨hp0,hp1⟩:=hpre
  have hm:a.length≤maxLen:=hwf.1.1
  have H0:=ZaW left (bulk a)
  have hb:bulk a=a.length + ZaF a:=rfl
  have w0:=Zg4 (left - ((List.length a:Nat):Int))
  unfold maxLen at hm
  have z0:ZaF (List.take 0 a)=0:=rfl
  have z1:ZaF (List.take a.length a)=ZaF a:=by rw [List.take_length]
  simp only [SIA,eq_self]
  refine ⟨fun h=>by omega,fun h=>⟨⟨0,⟨Nat.zero_le _,by omega⟩,?_⟩,fun k hk=>⟨fun hlt=>?_,fun hge=>?_⟩⟩⟩
  · exact Zgr
  · have hlt:k < a.length:=by omega
    have hk:=Zau (t:=Zae) hlt
    have s1:ZaF (List.take (k + 1) a)=ZaF (List.take k a) + bulk (Zaa a k):=ZdU hk
    have s2:ZaF (List.take (k + 1) a)≤ZaF a:=ZgH a (k + 1)
    have k1:=ZbN (k:=k) (by unfold maxLen; omega)
    have w1:=ZaW (left - ((List.length a:Nat):Int) - ((ZaF (List.take k a):Nat):Int)) (bulk (Zaa a k))
    (try unfold maxLen at *)
    exact Zgo
  · exact Zgq
def Zqh:ZaI Tryz.prog:=⟨30,[.v (.list Zae), .v ZaC],fun x=>szP x.2.1,fun x=>.c (.int .i64 (szT x.2.1 (bulk x.1))),fun _=>[],fun x hx=>Zqg x.1 x.2.1 hx,Tryz.call30⟩
theorem Zuc (a:Za6) (left:Int) (hpre:szP left):Zat Tryz.prog 9 [.ag (cellsOf Zbp a), .c (.int .i64 left)] (.c (.int .i64 (szT left (bulk a)))) []:=by
  refine bc0 [ZyW,Zqh] [] [] [] L0 Tryz.func9 (fun hwf=>?_)
  refine Eq.mpr (β:=(T5 ((pt (szP left))∧(T3 (bif (ltI (szT left (bulk a.1)) 0) then (True∧(rI (-1) (szT left (bulk a)))) else (T3 ((pt (szP (szT left (bulk a.1))))∧(T3 (bif (ltI (szT (szT left (bulk a.1)) (bulk a.2)) 0) then (True∧(rI (-1) (szT left (bulk a)))) else (T2 (rI (szT (szT left (bulk a.1)) (bulk a.2)) (szT left (bulk a))))))))))))) (by kernel_rfl) ?_
  obtain ⟨hp0,hp1⟩:=hpre
  have H0:=ZaW left (bulk a)
  have hb:bulk a=bulk a.1 + bulk a.2:=by
    have e:bulk a=bulk a.1 + (bulk a.2):=rfl
    omega
  have w0:=ZaW left (bulk a.1)
  have w1:=ZaW (szT left (bulk a.1)) (bulk a.2)
  exact ZcT
def Zud:ZaI Tryz.prog:=⟨9,[.s Zbp, .v ZaC],fun x=>szP x.2.1,fun x=>.c (.int .i64 (szT x.2.1 (bulk x.1))),fun _=>[],fun x hx=>Zuc x.1 x.2.1 hx,Tryz.call9⟩
end Go.Proofs.YtkompmgleojmlaaGreat
