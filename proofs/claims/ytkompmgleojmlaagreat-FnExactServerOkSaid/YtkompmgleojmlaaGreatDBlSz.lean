import Derived.Test.YtkompmgleojmlaaGreatDLawA
set_option linter.unusedSimpArgs false
set_option linter.unusedVariables false
set_option maxRecDepth 100000
set_option maxHeartbeats 4000000
namespace Go.Proofs.YtkompmgleojmlaaGreat
open Go.ChangeShapes Go.WideShapes Go.ChangeAt Go.RowKit Go.Joins Go.Deep
open GoRep (rep bulk)
def Zru (a:List ByteArray) (left:Int):Nat→List AV→Mem→Za3
  | 5,tm,M=>⟨Nat,fun y=>(Zb2 (Zcx tm [(1, .c (.int .i64 (left - ((List.length a:Nat):Int) - ((Zar (List.take y a):Nat):Int)))),(4, .any),(5, .c (.int .i64 ((y:Nat):Int)))]) 12 15,M),fun y=>(y≤List.length a∧((List.length a:Nat):Int) + ((Zar (List.take y a):Nat):Int)≤left),fun y=>(List.length a - y)⟩
  | _,_,_=>⟨Unit,fun _=>([],[]),fun _=>False,fun _=>0⟩
theorem Zrv (a:List ByteArray) (left:Int) (hpre:szP left):Zai Tryz.prog 288 [.c (.hs .no ZaL a), .c (.int .i64 left)] (.c (.int .i64 (szT left (bulk a)))) []:=by
  refine bc0 [] [] [] [] (Zru a left) Tryz.func288 (fun hwf=>?_)
  refine Eq.mpr (β:=(T8 (bif (ltI (w64 (left - (List.length a:Int))) 0) then (True∧(rI (-1) (szT left (bulk a)))) else (True∧((∃ q:Nat,(q≤List.length a∧(List.length a:Int) + (Zar (List.take q a):Int)≤left)∧((lxs [hn ZaL a] (vI (w64 (left - (List.length a:Int))) (left - (List.length a:Int) - (Zar (List.take q a):Int))∧lxs [.tp [], .tp []] (True∧vI 0 q∧lxs [ci left,hn ZaL a,ci (List.length a),ci (w64 (left - (List.length a:Int))),ci (w64 (left - (List.length a:Int))), .c (.bool false)] (TN 15 (lxs [.tp []] True)))))∧pt (True)))∧∀ y0:Nat,(y0≤List.length a∧(List.length a:Int) + (Zar (List.take y0 a):Int)≤left)→(T4 (bif (ltI y0 (List.length a)) then (T3 ((ix 1 y0 (List.length a))∧(T6 (bif (ltI (w64 ((left - (List.length a:Int) - (Zar (List.take y0 a):Int)) - (ByteArray.size (Zas a y0):Int))) 0) then (True∧(rI (-1) (szT left (bulk a)))) else (T3 (∃ y0' : Nat,(y0'≤List.length a∧(List.length a:Int) + (Zar (List.take y0' a):Int)≤left)∧(List.length a - y0') < (List.length a - y0)∧((lxs [hn ZaL a] (vI (w64 ((left - (List.length a:Int) - (Zar (List.take y0 a):Int)) - (ByteArray.size (Zas a y0):Int))) (left - (List.length a:Int) - (Zar (List.take y0' a):Int))∧lxs [.tp [], .tp []] (True∧vI (w64 ((y0:Int) + 1)) y0'∧lxs [ci left,hn ZaL a,ci (List.length a),ci (w64 (left - (List.length a:Int))),ci (w64 (left - (List.length a:Int))), .c (.bool false)] (TN 15 (lxs [.tp []] True)))))∧pt (True)))))))) else (T2 (rI (left - (List.length a:Int) - (Zar (List.take y0 a):Int)) (szT left (bulk a))))))))))) (by kernel_rfl) ?_
  unfold T2 T3 T4 T6 T8
  obtain ⟨hp0,hp1⟩:=hpre
  have hm:a.length≤maxLen:=hwf.1.1
  have H0:=ZaI left (bulk a)
  have hb:bulk a=a.length + Zar a:=rfl
  have w0:=Zge (left - ((List.length a:Nat):Int))
  unfold maxLen at hm
  have z0:Zar (List.take 0 a)=0:=rfl
  have z1:Zar (List.take a.length a)=Zar a:=by rw [List.take_length]
  simp only [SIA,eq_self]
  refine ⟨fun h=>by omega,fun h=>⟨⟨0,⟨Nat.zero_le _,by omega⟩,?_⟩,fun k hk=>⟨fun hlt=>?_,fun hge=>?_⟩⟩⟩
  · exact ZfE
  · have hlt:k < a.length:=by omega
    have hk:=Zap (t:=ZaL) hlt
    have s1:Zar (List.take (k + 1) a)=Zar (List.take k a) + bulk (Zas a k):=ZdA hk
    have s2:Zar (List.take (k + 1) a)≤Zar a:=Zf0 a (k + 1)
    have k1:=Zbj (k:=k) (by unfold maxLen; omega)
    have hs:(Zas a k).size≤maxLen:=ZGz (t:=ZaL) hwf.1.2 hlt
    have w1:=Zge ((left - ((List.length a:Nat):Int) - ((Zar (List.take k a):Nat):Int)) - ((ByteArray.size (Zas a k):Nat):Int))
    have hbk:bulk (Zas a k)=(Zas a k).size:=rfl
    (try unfold maxLen at *)
    exact ZfC
  · exact ZfD
def Zrw:Zat Tryz.prog:=⟨288,[.v (.list ZaL), .v ZaC],fun x=>szP x.2.1,fun x=>.c (.int .i64 (szT x.2.1 (bulk x.1))),fun _=>[],fun x hx=>Zrv x.1 x.2.1 hx,Tryz.call288⟩
theorem Zyw (a:ZaK) (left:Int) (hpre:szP left):Zai Tryz.prog 259 [.ag [.int .i64 a.1, .hs .no ZaL a.2.1, .int .i64 a.2.2], .c (.int .i64 left)] (.c (.int .i64 (szT left (bulk a)))) []:=by
  refine bc0 [Zrw] [] [] [] L0 Tryz.func259 (fun hwf=>?_)
  refine Eq.mpr (β:=(T5 ((pt (szP left))∧(T3 (bif (ltI (szT left (bulk a.2.1)) 0) then (True∧(rI (-1) (szT left (bulk a)))) else (T2 (rI (szT left (bulk a.2.1)) (szT left (bulk a))))))))) (by kernel_rfl) ?_
  obtain ⟨hp0,hp1⟩:=hpre
  have H0:=ZaI left (bulk a)
  have hb:bulk a=bulk a.2.1:=by
    have e:bulk a=0 + (bulk a.2.1 + (0)):=rfl
    omega
  have w1:=ZaI left (bulk a.2.1)
  exact ZcA
def Zyx:Zat Tryz.prog:=⟨259,[.s Zak, .v ZaC],fun x=>szP x.2.1,fun x=>.c (.int .i64 (szT x.2.1 (bulk x.1))),fun _=>[],fun x hx=>Zyw x.1 x.2.1 hx,Tryz.call259⟩
def Ztf (a:List ZaK) (left:Int):Nat→List AV→Mem→Za3
  | 5,tm,M=>⟨Nat,fun y=>(Zb2 (Zcx tm [(1, .c (.int .i64 (left - ((List.length a:Nat):Int) - ((Zar (List.take y a):Nat):Int)))),(4, .any),(5, .c (.int .i64 ((y:Nat):Int)))]) 12 14,M),fun y=>(y≤List.length a∧((List.length a:Nat):Int) + ((Zar (List.take y a):Nat):Int)≤left),fun y=>(List.length a - y)⟩
  | _,_,_=>⟨Unit,fun _=>([],[]),fun _=>False,fun _=>0⟩
theorem Ztg (a:List ZaK) (left:Int) (hpre:szP left):Zai Tryz.prog 214 [.c (.hs .no Zak a), .c (.int .i64 left)] (.c (.int .i64 (szT left (bulk a)))) []:=by
  refine bc0 [Zyx] [] [] [] (Ztf a left) Tryz.func214 (fun hwf=>?_)
  refine Eq.mpr (β:=(T8 (bif (ltI (w64 (left - (List.length a:Int))) 0) then (True∧(rI (-1) (szT left (bulk a)))) else (True∧((∃ q:Nat,(q≤List.length a∧(List.length a:Int) + (Zar (List.take q a):Int)≤left)∧((lxs [hn Zak a] (vI (w64 (left - (List.length a:Int))) (left - (List.length a:Int) - (Zar (List.take q a):Int))∧lxs [.tp [], .tp []] (True∧vI 0 q∧lxs [ci left,hn Zak a,ci (List.length a),ci (w64 (left - (List.length a:Int))),ci (w64 (left - (List.length a:Int))), .c (.bool false)] (TN 14 (lxs [.tp []] True)))))∧pt (True)))∧∀ y0:Nat,(y0≤List.length a∧(List.length a:Int) + (Zar (List.take y0 a):Int)≤left)→(T4 (bif (ltI y0 (List.length a)) then (T2 ((ix 3 y0 (List.length a))∧(T2 ((pt (szP (left - (List.length a:Int) - (Zar (List.take y0 a):Int))))∧(T3 (bif (ltI (szT (left - (List.length a:Int) - (Zar (List.take y0 a):Int)) (bulk (Zav a y0))) 0) then (True∧(rI (-1) (szT left (bulk a)))) else (T3 (∃ y0' : Nat,(y0'≤List.length a∧(List.length a:Int) + (Zar (List.take y0' a):Int)≤left)∧(List.length a - y0') < (List.length a - y0)∧((lxs [hn Zak a] (vI (szT (left - (List.length a:Int) - (Zar (List.take y0 a):Int)) (bulk (Zav a y0))) (left - (List.length a:Int) - (Zar (List.take y0' a):Int))∧lxs [.tp [], .tp []] (True∧vI (w64 ((y0:Int) + 1)) y0'∧lxs [ci left,hn Zak a,ci (List.length a),ci (w64 (left - (List.length a:Int))),ci (w64 (left - (List.length a:Int))), .c (.bool false)] (TN 14 (lxs [.tp []] True)))))∧pt (True)))))))))) else (T2 (rI (left - (List.length a:Int) - (Zar (List.take y0 a):Int)) (szT left (bulk a))))))))))) (by kernel_rfl) ?_
  unfold T2 T3 T4 T8
  obtain ⟨hp0,hp1⟩:=hpre
  have hm:a.length≤maxLen:=hwf.1.1
  have H0:=ZaI left (bulk a)
  have hb:bulk a=a.length + Zar a:=rfl
  have w0:=Zge (left - ((List.length a:Nat):Int))
  unfold maxLen at hm
  have z0:Zar (List.take 0 a)=0:=rfl
  have z1:Zar (List.take a.length a)=Zar a:=by rw [List.take_length]
  simp only [SIA,eq_self]
  refine ⟨fun h=>by omega,fun h=>⟨⟨0,⟨Nat.zero_le _,by omega⟩,?_⟩,fun k hk=>⟨fun hlt=>?_,fun hge=>?_⟩⟩⟩
  · exact ZfE
  · have hlt:k < a.length:=by omega
    have hk:=Zap (t:=Zak) hlt
    have s1:Zar (List.take (k + 1) a)=Zar (List.take k a) + bulk (Zav a k):=ZdA hk
    have s2:Zar (List.take (k + 1) a)≤Zar a:=Zf0 a (k + 1)
    have k1:=Zbj (k:=k) (by unfold maxLen; omega)
    have w1:=ZaI (left - ((List.length a:Nat):Int) - ((Zar (List.take k a):Nat):Int)) (bulk (Zav a k))
    (try unfold maxLen at *)
    exact ZfC
  · exact ZfD
def Zth:Zat Tryz.prog:=⟨214,[.v (.list Zak), .v ZaC],fun x=>szP x.2.1,fun x=>.c (.int .i64 (szT x.2.1 (bulk x.1))),fun _=>[],fun x hx=>Ztg x.1 x.2.1 hx,Tryz.call214⟩
theorem Zti (a:Zby) (left:Int) (hpre:szP left):Zai Tryz.prog 143 [.ag [.bool a.1, .hs .no Zak a.2], .c (.int .i64 left)] (.c (.int .i64 (szT left (bulk a)))) []:=by
  refine bc0 [Zth] [] [] [] L0 Tryz.func143 (fun hwf=>?_)
  refine Eq.mpr (β:=(T5 ((pt (szP left))∧(T3 (bif (ltI (szT left (bulk a.2)) 0) then (True∧(rI (-1) (szT left (bulk a)))) else (T2 (rI (szT left (bulk a.2)) (szT left (bulk a))))))))) (by kernel_rfl) ?_
  obtain ⟨hp0,hp1⟩:=hpre
  have H0:=ZaI left (bulk a)
  have hb:bulk a=bulk a.2:=by
    have e:bulk a=0 + (bulk a.2):=rfl
    omega
  have w1:=ZaI left (bulk a.2)
  exact ZcA
def Ztj:Zat Tryz.prog:=⟨143,[.s ZcG, .v ZaC],fun x=>szP x.2.1,fun x=>.c (.int .i64 (szT x.2.1 (bulk x.1))),fun _=>[],fun x hx=>Zti x.1 x.2.1 hx,Tryz.call143⟩
theorem ZDk (a:Zc7) (left:Int) (hpre:szP left):Zai Tryz.prog 258 [.ag [.int .i64 a.1, .int .i64 a.2.1, .str a.2.2], .c (.int .i64 left)] (.c (.int .i64 (szT left (bulk a)))) []:=by
  refine bc0 [] [] [] [] L0 Tryz.func258 (fun hwf=>?_)
  refine Eq.mpr (β:=(T10 (bif (ltI (w64 (left - (ByteArray.size a.2.2:Int))) 0) then (True∧(rI (-1) (szT left (bulk a)))) else (T2 (rI (w64 (left - (ByteArray.size a.2.2:Int))) (szT left (bulk a))))))) (by kernel_rfl) ?_
  obtain ⟨hp0,hp1⟩:=hpre
  have H0:=ZaI left (bulk a)
  have hb:bulk a=ByteArray.size a.2.2:=by
    have e:bulk a=0 + (0 + (ByteArray.size a.2.2)):=rfl
    omega
  have m2:ByteArray.size a.2.2≤maxLen:=hwf.1.2.2.1
  have w2:=Zge (left - ((ByteArray.size a.2.2:Nat):Int))
  exact ZcA
def ZDl:Zat Tryz.prog:=⟨258,[.s ZaF, .v ZaC],fun x=>szP x.2.1,fun x=>.c (.int .i64 (szT x.2.1 (bulk x.1))),fun _=>[],fun x hx=>ZDk x.1 x.2.1 hx,Tryz.call258⟩
def ZBh (a:List Zc7) (left:Int):Nat→List AV→Mem→Za3
  | 5,tm,M=>⟨Nat,fun y=>(Zb2 (Zcx tm [(1, .c (.int .i64 (left - ((List.length a:Nat):Int) - ((Zar (List.take y a):Nat):Int)))),(4, .any),(5, .c (.int .i64 ((y:Nat):Int)))]) 12 14,M),fun y=>(y≤List.length a∧((List.length a:Nat):Int) + ((Zar (List.take y a):Nat):Int)≤left),fun y=>(List.length a - y)⟩
  | _,_,_=>⟨Unit,fun _=>([],[]),fun _=>False,fun _=>0⟩
theorem ZBi (a:List Zc7) (left:Int) (hpre:szP left):Zai Tryz.prog 212 [.c (.hs .no ZaF a), .c (.int .i64 left)] (.c (.int .i64 (szT left (bulk a)))) []:=by
  refine bc0 [ZDl] [] [] [] (ZBh a left) Tryz.func212 (fun hwf=>?_)
  refine Eq.mpr (β:=(T8 (bif (ltI (w64 (left - (List.length a:Int))) 0) then (True∧(rI (-1) (szT left (bulk a)))) else (True∧((∃ q:Nat,(q≤List.length a∧(List.length a:Int) + (Zar (List.take q a):Int)≤left)∧((lxs [hn ZaF a] (vI (w64 (left - (List.length a:Int))) (left - (List.length a:Int) - (Zar (List.take q a):Int))∧lxs [.tp [], .tp []] (True∧vI 0 q∧lxs [ci left,hn ZaF a,ci (List.length a),ci (w64 (left - (List.length a:Int))),ci (w64 (left - (List.length a:Int))), .c (.bool false)] (TN 14 (lxs [.tp []] True)))))∧pt (True)))∧∀ y0:Nat,(y0≤List.length a∧(List.length a:Int) + (Zar (List.take y0 a):Int)≤left)→(T4 (bif (ltI y0 (List.length a)) then (T2 ((ix 3 y0 (List.length a))∧(T2 ((pt (szP (left - (List.length a:Int) - (Zar (List.take y0 a):Int))))∧(T3 (bif (ltI (szT (left - (List.length a:Int) - (Zar (List.take y0 a):Int)) (bulk (Zay a y0))) 0) then (True∧(rI (-1) (szT left (bulk a)))) else (T3 (∃ y0' : Nat,(y0'≤List.length a∧(List.length a:Int) + (Zar (List.take y0' a):Int)≤left)∧(List.length a - y0') < (List.length a - y0)∧((lxs [hn ZaF a] (vI (szT (left - (List.length a:Int) - (Zar (List.take y0 a):Int)) (bulk (Zay a y0))) (left - (List.length a:Int) - (Zar (List.take y0' a):Int))∧lxs [.tp [], .tp []] (True∧vI (w64 ((y0:Int) + 1)) y0'∧lxs [ci left,hn ZaF a,ci (List.length a),ci (w64 (left - (List.length a:Int))),ci (w64 (left - (List.length a:Int))), .c (.bool false)] (TN 14 (lxs [.tp []] True)))))∧pt (True)))))))))) else (T2 (rI (left - (List.length a:Int) - (Zar (List.take y0 a):Int)) (szT left (bulk a))))))))))) (by kernel_rfl) ?_
  unfold T2 T3 T4 T8
  obtain ⟨hp0,hp1⟩:=hpre
  have hm:a.length≤maxLen:=hwf.1.1
  have H0:=ZaI left (bulk a)
  have hb:bulk a=a.length + Zar a:=rfl
  have w0:=Zge (left - ((List.length a:Nat):Int))
  unfold maxLen at hm
  have z0:Zar (List.take 0 a)=0:=rfl
  have z1:Zar (List.take a.length a)=Zar a:=by rw [List.take_length]
  simp only [SIA,eq_self]
  refine ⟨fun h=>by omega,fun h=>⟨⟨0,⟨Nat.zero_le _,by omega⟩,?_⟩,fun k hk=>⟨fun hlt=>?_,fun hge=>?_⟩⟩⟩
  · exact ZfE
  · have hlt:k < a.length:=by omega
    have hk:=Zap (t:=ZaF) hlt
    have s1:Zar (List.take (k + 1) a)=Zar (List.take k a) + bulk (Zay a k):=ZdA hk
    have s2:Zar (List.take (k + 1) a)≤Zar a:=Zf0 a (k + 1)
    have k1:=Zbj (k:=k) (by unfold maxLen; omega)
    have w1:=ZaI (left - ((List.length a:Nat):Int) - ((Zar (List.take k a):Nat):Int)) (bulk (Zay a k))
    (try unfold maxLen at *)
    exact ZfC
  · exact ZfD
def ZBj:Zat Tryz.prog:=⟨212,[.v (.list ZaF), .v ZaC],fun x=>szP x.2.1,fun x=>.c (.int .i64 (szT x.2.1 (bulk x.1))),fun _=>[],fun x hx=>ZBi x.1 x.2.1 hx,Tryz.call212⟩
theorem ZDm (a:Zaw) (left:Int) (hpre:szP left):Zai Tryz.prog 140 [.ag (cellsOf Zaf a), .c (.int .i64 left)] (.c (.int .i64 (szT left (bulk a)))) []:=by
  refine bc0 [ZBj] [] [] [] L0 Tryz.func140 (fun hwf=>?_)
  refine Eq.mpr (β:=(T10 (bif (ltI (w64 (left - (ByteArray.size a.1:Int))) 0) then (True∧(rI (-1) (szT left (bulk a)))) else (T3 ((pt (szP (w64 (left - (ByteArray.size a.1:Int)))))∧(T3 (bif (ltI (szT (w64 (left - (ByteArray.size a.1:Int))) (bulk a.2.2.2)) 0) then (True∧(rI (-1) (szT left (bulk a)))) else (T2 (rI (szT (w64 (left - (ByteArray.size a.1:Int))) (bulk a.2.2.2)) (szT left (bulk a))))))))))) (by kernel_rfl) ?_
  obtain ⟨hp0,hp1⟩:=hpre
  have H0:=ZaI left (bulk a)
  have hb:bulk a=ByteArray.size a.1 + bulk a.2.2.2:=by
    have e:bulk a=ByteArray.size a.1 + (0 + (0 + (bulk a.2.2.2))):=rfl
    omega
  have m0:ByteArray.size a.1≤maxLen:=hwf.1.1
  have w0:=Zge (left - ((ByteArray.size a.1:Nat):Int))
  have w3:=ZaI (IntKind.wrap .i64 (left - ((ByteArray.size a.1:Nat):Int))) (bulk a.2.2.2)
  exact ZcA
def ZDn:Zat Tryz.prog:=⟨140,[.s Zaf, .v ZaC],fun x=>szP x.2.1,fun x=>.c (.int .i64 (szT x.2.1 (bulk x.1))),fun _=>[],fun x hx=>ZDm x.1 x.2.1 hx,Tryz.call140⟩
def ZBk (a:List Zaw) (left:Int):Nat→List AV→Mem→Za3
  | 5,tm,M=>⟨Nat,fun y=>(Zb2 (Zcx tm [(1, .c (.int .i64 (left - ((List.length a:Nat):Int) - ((Zar (List.take y a):Nat):Int)))),(4, .any),(5, .c (.int .i64 ((y:Nat):Int)))]) 12 14,M),fun y=>(y≤List.length a∧((List.length a:Nat):Int) + ((Zar (List.take y a):Nat):Int)≤left),fun y=>(List.length a - y)⟩
  | _,_,_=>⟨Unit,fun _=>([],[]),fun _=>False,fun _=>0⟩
theorem ZBl (a:List Zaw) (left:Int) (hpre:szP left):Zai Tryz.prog 64 [.c (.hs .no Zaf a), .c (.int .i64 left)] (.c (.int .i64 (szT left (bulk a)))) []:=by
  refine bc0 [ZDn] [] [] [] (ZBk a left) Tryz.func64 (fun hwf=>?_)
  refine Eq.mpr (β:=(T8 (bif (ltI (w64 (left - (List.length a:Int))) 0) then (True∧(rI (-1) (szT left (bulk a)))) else (True∧((∃ q:Nat,(q≤List.length a∧(List.length a:Int) + (Zar (List.take q a):Int)≤left)∧((lxs [hn Zaf a] (vI (w64 (left - (List.length a:Int))) (left - (List.length a:Int) - (Zar (List.take q a):Int))∧lxs [.tp [], .tp []] (True∧vI 0 q∧lxs [ci left,hn Zaf a,ci (List.length a),ci (w64 (left - (List.length a:Int))),ci (w64 (left - (List.length a:Int))), .c (.bool false)] (TN 14 (lxs [.tp []] True)))))∧pt (True)))∧∀ y0:Nat,(y0≤List.length a∧(List.length a:Int) + (Zar (List.take y0 a):Int)≤left)→(T4 (bif (ltI y0 (List.length a)) then (T2 ((ix 4 y0 (List.length a))∧(T2 ((pt (szP (left - (List.length a:Int) - (Zar (List.take y0 a):Int))))∧(T3 (bif (ltI (szT (left - (List.length a:Int) - (Zar (List.take y0 a):Int)) (bulk (Zaa a y0))) 0) then (True∧(rI (-1) (szT left (bulk a)))) else (T3 (∃ y0' : Nat,(y0'≤List.length a∧(List.length a:Int) + (Zar (List.take y0' a):Int)≤left)∧(List.length a - y0') < (List.length a - y0)∧((lxs [hn Zaf a] (vI (szT (left - (List.length a:Int) - (Zar (List.take y0 a):Int)) (bulk (Zaa a y0))) (left - (List.length a:Int) - (Zar (List.take y0' a):Int))∧lxs [.tp [], .tp []] (True∧vI (w64 ((y0:Int) + 1)) y0'∧lxs [ci left,hn Zaf a,ci (List.length a),ci (w64 (left - (List.length a:Int))),ci (w64 (left - (List.length a:Int))), .c (.bool false)] (TN 14 (lxs [.tp []] True)))))∧pt (True)))))))))) else (T2 (rI (left - (List.length a:Int) - (Zar (List.take y0 a):Int)) (szT left (bulk a))))))))))) (by kernel_rfl) ?_
  unfold T2 T3 T4 T8
  obtain ⟨hp0,hp1⟩:=hpre
  have hm:a.length≤maxLen:=hwf.1.1
  have H0:=ZaI left (bulk a)
  have hb:bulk a=a.length + Zar a:=rfl
  have w0:=Zge (left - ((List.length a:Nat):Int))
  unfold maxLen at hm
  have z0:Zar (List.take 0 a)=0:=rfl
  have z1:Zar (List.take a.length a)=Zar a:=by rw [List.take_length]
  simp only [SIA,eq_self]
  refine ⟨fun h=>by omega,fun h=>⟨⟨0,⟨Nat.zero_le _,by omega⟩,?_⟩,fun k hk=>⟨fun hlt=>?_,fun hge=>?_⟩⟩⟩
  · exact ZfE
  · have hlt:k < a.length:=by omega
    have hk:=Zap (t:=Zaf) hlt
    have s1:Zar (List.take (k + 1) a)=Zar (List.take k a) + bulk (Zaa a k):=ZdA hk
    have s2:Zar (List.take (k + 1) a)≤Zar a:=Zf0 a (k + 1)
    have k1:=Zbj (k:=k) (by unfold maxLen; omega)
    have w1:=ZaI (left - ((List.length a:Nat):Int) - ((Zar (List.take k a):Nat):Int)) (bulk (Zaa a k))
    (try unfold maxLen at *)
    exact ZfC
  · exact ZfD
def ZBm:Zat Tryz.prog:=⟨64,[.v (.list Zaf), .v ZaC],fun x=>szP x.2.1,fun x=>.c (.int .i64 (szT x.2.1 (bulk x.1))),fun _=>[],fun x hx=>ZBl x.1 x.2.1 hx,Tryz.call64⟩
theorem Ztk (a:Zam) (left:Int) (hpre:szP left):Zai Tryz.prog 141 [.ag (cellsOf Zae a), .c (.int .i64 left)] (.c (.int .i64 (szT left (bulk a)))) []:=by
  refine bc0 [] [] [] [] L0 Tryz.func141 (fun hwf=>?_)
  refine Eq.mpr (β:=(T10 (bif (ltI (w64 (left - (ByteArray.size a.2.2.2.2.1:Int))) 0) then (True∧(rI (-1) (szT left (bulk a)))) else (T8 (bif (ltI (w64 ((w64 (left - (ByteArray.size a.2.2.2.2.1:Int))) - (ByteArray.size a.2.2.2.2.2:Int))) 0) then (True∧(rI (-1) (szT left (bulk a)))) else (T2 (rI (w64 ((w64 (left - (ByteArray.size a.2.2.2.2.1:Int))) - (ByteArray.size a.2.2.2.2.2:Int))) (szT left (bulk a))))))))) (by kernel_rfl) ?_
  obtain ⟨hp0,hp1⟩:=hpre
  have H0:=ZaI left (bulk a)
  have hb:bulk a=ByteArray.size a.2.2.2.2.1 + ByteArray.size a.2.2.2.2.2:=by
    have e:bulk a=0 + (0 + (0 + (0 + (ByteArray.size a.2.2.2.2.1 + (ByteArray.size a.2.2.2.2.2))))):=rfl
    omega
  have m4:ByteArray.size a.2.2.2.2.1≤maxLen:=hwf.1.2.2.2.2.1
  have m5:ByteArray.size a.2.2.2.2.2≤maxLen:=hwf.1.2.2.2.2.2.1
  have w4:=Zge (left - ((ByteArray.size a.2.2.2.2.1:Nat):Int))
  have w5:=Zge ((IntKind.wrap .i64 (left - ((ByteArray.size a.2.2.2.2.1:Nat):Int))) - ((ByteArray.size a.2.2.2.2.2:Nat):Int))
  exact ZcA
def Ztl:Zat Tryz.prog:=⟨141,[.s Zae, .v ZaC],fun x=>szP x.2.1,fun x=>.c (.int .i64 (szT x.2.1 (bulk x.1))),fun _=>[],fun x hx=>Ztk x.1 x.2.1 hx,Tryz.call141⟩
def Zrx (a:List Zam) (left:Int):Nat→List AV→Mem→Za3
  | 5,tm,M=>⟨Nat,fun y=>(Zb2 (Zcx tm [(1, .c (.int .i64 (left - ((List.length a:Nat):Int) - ((Zar (List.take y a):Nat):Int)))),(4, .any),(5, .c (.int .i64 ((y:Nat):Int)))]) 12 14,M),fun y=>(y≤List.length a∧((List.length a:Nat):Int) + ((Zar (List.take y a):Nat):Int)≤left),fun y=>(List.length a - y)⟩
  | _,_,_=>⟨Unit,fun _=>([],[]),fun _=>False,fun _=>0⟩
theorem Zry (a:List Zam) (left:Int) (hpre:szP left):Zai Tryz.prog 65 [.c (.hs .no Zae a), .c (.int .i64 left)] (.c (.int .i64 (szT left (bulk a)))) []:=by
  refine bc0 [Ztl] [] [] [] (Zrx a left) Tryz.func65 (fun hwf=>?_)
  refine Eq.mpr (β:=(T8 (bif (ltI (w64 (left - (List.length a:Int))) 0) then (True∧(rI (-1) (szT left (bulk a)))) else (True∧((∃ q:Nat,(q≤List.length a∧(List.length a:Int) + (Zar (List.take q a):Int)≤left)∧((lxs [hn Zae a] (vI (w64 (left - (List.length a:Int))) (left - (List.length a:Int) - (Zar (List.take q a):Int))∧lxs [.tp [], .tp []] (True∧vI 0 q∧lxs [ci left,hn Zae a,ci (List.length a),ci (w64 (left - (List.length a:Int))),ci (w64 (left - (List.length a:Int))), .c (.bool false)] (TN 14 (lxs [.tp []] True)))))∧pt (True)))∧∀ y0:Nat,(y0≤List.length a∧(List.length a:Int) + (Zar (List.take y0 a):Int)≤left)→(T4 (bif (ltI y0 (List.length a)) then (T2 ((ix 6 y0 (List.length a))∧(T2 ((pt (szP (left - (List.length a:Int) - (Zar (List.take y0 a):Int))))∧(T3 (bif (ltI (szT (left - (List.length a:Int) - (Zar (List.take y0 a):Int)) (bulk (Zab a y0))) 0) then (True∧(rI (-1) (szT left (bulk a)))) else (T3 (∃ y0' : Nat,(y0'≤List.length a∧(List.length a:Int) + (Zar (List.take y0' a):Int)≤left)∧(List.length a - y0') < (List.length a - y0)∧((lxs [hn Zae a] (vI (szT (left - (List.length a:Int) - (Zar (List.take y0 a):Int)) (bulk (Zab a y0))) (left - (List.length a:Int) - (Zar (List.take y0' a):Int))∧lxs [.tp [], .tp []] (True∧vI (w64 ((y0:Int) + 1)) y0'∧lxs [ci left,hn Zae a,ci (List.length a),ci (w64 (left - (List.length a:Int))),ci (w64 (left - (List.length a:Int))), .c (.bool false)] (TN 14 (lxs [.tp []] True)))))∧pt (True)))))))))) else (T2 (rI (left - (List.length a:Int) - (Zar (List.take y0 a):Int)) (szT left (bulk a))))))))))) (by kernel_rfl) ?_
  unfold T2 T3 T4 T8
  obtain ⟨hp0,hp1⟩:=hpre
  have hm:a.length≤maxLen:=hwf.1.1
  have H0:=ZaI left (bulk a)
  have hb:bulk a=a.length + Zar a:=rfl
  have w0:=Zge (left - ((List.length a:Nat):Int))
  unfold maxLen at hm
  have z0:Zar (List.take 0 a)=0:=rfl
  have z1:Zar (List.take a.length a)=Zar a:=by rw [List.take_length]
  simp only [SIA,eq_self]
  refine ⟨fun h=>by omega,fun h=>⟨⟨0,⟨Nat.zero_le _,by omega⟩,?_⟩,fun k hk=>⟨fun hlt=>?_,fun hge=>?_⟩⟩⟩
  · exact ZfE
  · have hlt:k < a.length:=by omega
    have hk:=Zap (t:=Zae) hlt
    have s1:Zar (List.take (k + 1) a)=Zar (List.take k a) + bulk (Zab a k):=ZdA hk
    have s2:Zar (List.take (k + 1) a)≤Zar a:=Zf0 a (k + 1)
    have k1:=Zbj (k:=k) (by unfold maxLen; omega)
    have w1:=ZaI (left - ((List.length a:Nat):Int) - ((Zar (List.take k a):Nat):Int)) (bulk (Zab a k))
    (try unfold maxLen at *)
    exact ZfC
  · exact ZfD
def Zrz:Zat Tryz.prog:=⟨65,[.v (.list Zae), .v ZaC],fun x=>szP x.2.1,fun x=>.c (.int .i64 (szT x.2.1 (bulk x.1))),fun _=>[],fun x hx=>Zry x.1 x.2.1 hx,Tryz.call65⟩
theorem Zyy (a:Zau) (left:Int) (hpre:szP left):Zai Tryz.prog 29 [.ag (cellsOf Zbr a), .c (.int .i64 left)] (.c (.int .i64 (szT left (bulk a)))) []:=by
  refine bc0 [ZBm,Zrz] [] [] [] L0 Tryz.func29 (fun hwf=>?_)
  refine Eq.mpr (β:=(T5 ((pt (szP left))∧(T3 (bif (ltI (szT left (bulk a.1)) 0) then (True∧(rI (-1) (szT left (bulk a)))) else (T3 ((pt (szP (szT left (bulk a.1))))∧(T3 (bif (ltI (szT (szT left (bulk a.1)) (bulk a.2.1)) 0) then (True∧(rI (-1) (szT left (bulk a)))) else (T2 (rI (szT (szT left (bulk a.1)) (bulk a.2.1)) (szT left (bulk a))))))))))))) (by kernel_rfl) ?_
  obtain ⟨hp0,hp1⟩:=hpre
  have H0:=ZaI left (bulk a)
  have hb:bulk a=bulk a.1 + bulk a.2.1:=by
    have e:bulk a=bulk a.1 + (bulk a.2.1 + (0)):=rfl
    omega
  have w0:=ZaI left (bulk a.1)
  have w1:=ZaI (szT left (bulk a.1)) (bulk a.2.1)
  exact ZcA
def Zyz:Zat Tryz.prog:=⟨29,[.s Zbr, .v ZaC],fun x=>szP x.2.1,fun x=>.c (.int .i64 (szT x.2.1 (bulk x.1))),fun _=>[],fun x hx=>Zyy x.1 x.2.1 hx,Tryz.call29⟩
theorem ZyA (a:List ZbB) (left:Int) (hpre:szP left):Zai Tryz.prog 213 [.c (.hs .no Zal a), .c (.int .i64 left)] (.c (.int .i64 (szT left (bulk a)))) []:=by
  refine bc0 [] [] [] [] L0 Tryz.func213 (fun hwf=>?_)
  refine Eq.mpr (β:=(T8 (bif (ltI (w64 (left - (List.length a:Int))) 0) then (True∧(rI (-1) (szT left (bulk a)))) else (T2 (rI (w64 (left - (List.length a:Int))) (szT left (bulk a))))))) (by kernel_rfl) ?_
  obtain ⟨hp0,hp1⟩:=hpre
  have hm:a.length≤maxLen:=hwf.1.1
  have H0:=ZaI left (bulk a)
  have hb:bulk a=a.length + Zar a:=rfl
  have w0:=Zge (left - ((List.length a:Nat):Int))
  unfold maxLen at hm
  have z1:Zar a=0:=Zqr (fun _=>rfl) a
  exact ZbU
def ZyB:Zat Tryz.prog:=⟨213,[.v (.list Zal), .v ZaC],fun x=>szP x.2.1,fun x=>.c (.int .i64 (szT x.2.1 (bulk x.1))),fun _=>[],fun x hx=>ZyA x.1 x.2.1 hx,Tryz.call213⟩
theorem ZBn (a:List ZbB) (left:Int) (hpre:szP left):Zai Tryz.prog 142 [.ag [.hs .no Zal a], .c (.int .i64 left)] (.c (.int .i64 (szT left (bulk a)))) []:=by
  refine bc0 [ZyB] [] [] [] L0 Tryz.func142 (fun hwf=>?_)
  refine Eq.mpr (β:=(T5 ((pt (szP left))∧(T3 (bif (ltI (szT left (bulk a)) 0) then (True∧(rI (-1) (szT left (bulk a)))) else (T2 (rI (szT left (bulk a)) (szT left (bulk a))))))))) (by kernel_rfl) ?_
  obtain ⟨hp0,hp1⟩:=hpre
  have H0:=ZaI left (bulk a)
  have hb:bulk a=bulk a:=by
    have e:bulk a=bulk a:=rfl
    omega
  have w0:=ZaI left (bulk a)
  exact ZcA
def ZBo:Zat Tryz.prog:=⟨142,[.s (.list Zal), .v ZaC],fun x=>szP x.2.1,fun x=>.c (.int .i64 (szT x.2.1 (bulk x.1))),fun _=>[],fun x hx=>ZBn x.1 x.2.1 hx,Tryz.call142⟩
theorem ZBp (a:Zaz) (left:Int) (hpre:szP left):Zai Tryz.prog 260 [.ag (cellsOf Zah a), .c (.int .i64 left)] (.c (.int .i64 (szT left (bulk a)))) []:=by
  refine bc0 [] [] [] [] L0 Tryz.func260 (fun hwf=>?_)
  refine Eq.mpr (β:=(T10 (bif (ltI (w64 (left - (ByteArray.size a.2.2.2:Int))) 0) then (True∧(rI (-1) (szT left (bulk a)))) else (T2 (rI (w64 (left - (ByteArray.size a.2.2.2:Int))) (szT left (bulk a))))))) (by kernel_rfl) ?_
  obtain ⟨hp0,hp1⟩:=hpre
  have H0:=ZaI left (bulk a)
  have hb:bulk a=ByteArray.size a.2.2.2:=by
    have e:bulk a=0 + (0 + (0 + (ByteArray.size a.2.2.2))):=rfl
    omega
  have m3:ByteArray.size a.2.2.2≤maxLen:=hwf.1.2.2.2.1
  have w3:=Zge (left - ((ByteArray.size a.2.2.2:Nat):Int))
  exact ZcA
def ZBq:Zat Tryz.prog:=⟨260,[.s Zah, .v ZaC],fun x=>szP x.2.1,fun x=>.c (.int .i64 (szT x.2.1 (bulk x.1))),fun _=>[],fun x hx=>ZBp x.1 x.2.1 hx,Tryz.call260⟩
def ZyC (a:List Zaz) (left:Int):Nat→List AV→Mem→Za3
  | 5,tm,M=>⟨Nat,fun y=>(Zb2 (Zcx tm [(1, .c (.int .i64 (left - ((List.length a:Nat):Int) - ((Zar (List.take y a):Nat):Int)))),(4, .any),(5, .c (.int .i64 ((y:Nat):Int)))]) 12 14,M),fun y=>(y≤List.length a∧((List.length a:Nat):Int) + ((Zar (List.take y a):Nat):Int)≤left),fun y=>(List.length a - y)⟩
  | _,_,_=>⟨Unit,fun _=>([],[]),fun _=>False,fun _=>0⟩
theorem ZyD (a:List Zaz) (left:Int) (hpre:szP left):Zai Tryz.prog 215 [.c (.hs .no Zah a), .c (.int .i64 left)] (.c (.int .i64 (szT left (bulk a)))) []:=by
  refine bc0 [ZBq] [] [] [] (ZyC a left) Tryz.func215 (fun hwf=>?_)
  refine Eq.mpr (β:=(T8 (bif (ltI (w64 (left - (List.length a:Int))) 0) then (True∧(rI (-1) (szT left (bulk a)))) else (True∧((∃ q:Nat,(q≤List.length a∧(List.length a:Int) + (Zar (List.take q a):Int)≤left)∧((lxs [hn Zah a] (vI (w64 (left - (List.length a:Int))) (left - (List.length a:Int) - (Zar (List.take q a):Int))∧lxs [.tp [], .tp []] (True∧vI 0 q∧lxs [ci left,hn Zah a,ci (List.length a),ci (w64 (left - (List.length a:Int))),ci (w64 (left - (List.length a:Int))), .c (.bool false)] (TN 14 (lxs [.tp []] True)))))∧pt (True)))∧∀ y0:Nat,(y0≤List.length a∧(List.length a:Int) + (Zar (List.take y0 a):Int)≤left)→(T4 (bif (ltI y0 (List.length a)) then (T2 ((ix 4 y0 (List.length a))∧(T2 ((pt (szP (left - (List.length a:Int) - (Zar (List.take y0 a):Int))))∧(T3 (bif (ltI (szT (left - (List.length a:Int) - (Zar (List.take y0 a):Int)) (bulk (Zad a y0))) 0) then (True∧(rI (-1) (szT left (bulk a)))) else (T3 (∃ y0' : Nat,(y0'≤List.length a∧(List.length a:Int) + (Zar (List.take y0' a):Int)≤left)∧(List.length a - y0') < (List.length a - y0)∧((lxs [hn Zah a] (vI (szT (left - (List.length a:Int) - (Zar (List.take y0 a):Int)) (bulk (Zad a y0))) (left - (List.length a:Int) - (Zar (List.take y0' a):Int))∧lxs [.tp [], .tp []] (True∧vI (w64 ((y0:Int) + 1)) y0'∧lxs [ci left,hn Zah a,ci (List.length a),ci (w64 (left - (List.length a:Int))),ci (w64 (left - (List.length a:Int))), .c (.bool false)] (TN 14 (lxs [.tp []] True)))))∧pt (True)))))))))) else (T2 (rI (left - (List.length a:Int) - (Zar (List.take y0 a):Int)) (szT left (bulk a))))))))))) (by kernel_rfl) ?_
  unfold T2 T3 T4 T8
  obtain ⟨hp0,hp1⟩:=hpre
  have hm:a.length≤maxLen:=hwf.1.1
  have H0:=ZaI left (bulk a)
  have hb:bulk a=a.length + Zar a:=rfl
  have w0:=Zge (left - ((List.length a:Nat):Int))
  unfold maxLen at hm
  have z0:Zar (List.take 0 a)=0:=rfl
  have z1:Zar (List.take a.length a)=Zar a:=by rw [List.take_length]
  simp only [SIA,eq_self]
  refine ⟨fun h=>by omega,fun h=>⟨⟨0,⟨Nat.zero_le _,by omega⟩,?_⟩,fun k hk=>⟨fun hlt=>?_,fun hge=>?_⟩⟩⟩
  · exact ZfE
  · have hlt:k < a.length:=by omega
    have hk:=Zap (t:=Zah) hlt
    have s1:Zar (List.take (k + 1) a)=Zar (List.take k a) + bulk (Zad a k):=ZdA hk
    have s2:Zar (List.take (k + 1) a)≤Zar a:=Zf0 a (k + 1)
    have k1:=Zbj (k:=k) (by unfold maxLen; omega)
    have w1:=ZaI (left - ((List.length a:Nat):Int) - ((Zar (List.take k a):Nat):Int)) (bulk (Zad a k))
    (try unfold maxLen at *)
    exact ZfC
  · exact ZfD
def ZyE:Zat Tryz.prog:=⟨215,[.v (.list Zah), .v ZaC],fun x=>szP x.2.1,fun x=>.c (.int .i64 (szT x.2.1 (bulk x.1))),fun _=>[],fun x hx=>ZyD x.1 x.2.1 hx,Tryz.call215⟩
theorem ZyF (a:Zbc) (left:Int) (hpre:szP left):Zai Tryz.prog 144 [.ag [.hs .no Zah a.1, .bool a.2.1, .bool a.2.2], .c (.int .i64 left)] (.c (.int .i64 (szT left (bulk a)))) []:=by
  refine bc0 [ZyE] [] [] [] L0 Tryz.func144 (fun hwf=>?_)
  refine Eq.mpr (β:=(T5 ((pt (szP left))∧(T3 (bif (ltI (szT left (bulk a.1)) 0) then (True∧(rI (-1) (szT left (bulk a)))) else (T2 (rI (szT left (bulk a.1)) (szT left (bulk a))))))))) (by kernel_rfl) ?_
  obtain ⟨hp0,hp1⟩:=hpre
  have H0:=ZaI left (bulk a)
  have hb:bulk a=bulk a.1:=by
    have e:bulk a=bulk a.1 + (0 + (0)):=rfl
    omega
  have w0:=ZaI left (bulk a.1)
  exact ZcA
def ZyG:Zat Tryz.prog:=⟨144,[.s ZcU, .v ZaC],fun x=>szP x.2.1,fun x=>.c (.int .i64 (szT x.2.1 (bulk x.1))),fun _=>[],fun x hx=>ZyF x.1 x.2.1 hx,Tryz.call144⟩
theorem ZDo (a:ZpD) (left:Int) (hpre:szP left):Zai Tryz.prog 146 [.ag [.str a.1, .str a.2], .c (.int .i64 left)] (.c (.int .i64 (szT left (bulk a)))) []:=by
  refine bc0 [] [] [] [] L0 Tryz.func146 (fun hwf=>?_)
  refine Eq.mpr (β:=(T10 (bif (ltI (w64 (left - (ByteArray.size a.1:Int))) 0) then (True∧(rI (-1) (szT left (bulk a)))) else (T8 (bif (ltI (w64 ((w64 (left - (ByteArray.size a.1:Int))) - (ByteArray.size a.2:Int))) 0) then (True∧(rI (-1) (szT left (bulk a)))) else (T2 (rI (w64 ((w64 (left - (ByteArray.size a.1:Int))) - (ByteArray.size a.2:Int))) (szT left (bulk a))))))))) (by kernel_rfl) ?_
  obtain ⟨hp0,hp1⟩:=hpre
  have H0:=ZaI left (bulk a)
  have hb:bulk a=ByteArray.size a.1 + ByteArray.size a.2:=by
    have e:bulk a=ByteArray.size a.1 + (ByteArray.size a.2):=rfl
    omega
  have m0:ByteArray.size a.1≤maxLen:=hwf.1.1
  have m1:ByteArray.size a.2≤maxLen:=hwf.1.2.1
  have w0:=Zge (left - ((ByteArray.size a.1:Nat):Int))
  have w1:=Zge ((IntKind.wrap .i64 (left - ((ByteArray.size a.1:Nat):Int))) - ((ByteArray.size a.2:Nat):Int))
  exact ZcA
def ZDp:Zat Tryz.prog:=⟨146,[.s Zkl, .v ZaC],fun x=>szP x.2.1,fun x=>.c (.int .i64 (szT x.2.1 (bulk x.1))),fun _=>[],fun x hx=>ZDo x.1 x.2.1 hx,Tryz.call146⟩
theorem ZFp (a:GIn) (left:Int) (hpre:szP left):Zai Tryz.prog 145 [.ag [.str a.1, .bool a.2], .c (.int .i64 left)] (.c (.int .i64 (szT left (bulk a)))) []:=by
  refine bc0 [] [] [] [] L0 Tryz.func145 (fun hwf=>?_)
  refine Eq.mpr (β:=(T10 (bif (ltI (w64 (left - (ByteArray.size a.1:Int))) 0) then (True∧(rI (-1) (szT left (bulk a)))) else (T2 (rI (w64 (left - (ByteArray.size a.1:Int))) (szT left (bulk a))))))) (by kernel_rfl) ?_
  obtain ⟨hp0,hp1⟩:=hpre
  have H0:=ZaI left (bulk a)
  have hb:bulk a=ByteArray.size a.1:=by
    have e:bulk a=ByteArray.size a.1 + (0):=rfl
    omega
  have m0:ByteArray.size a.1≤maxLen:=hwf.1.1
  have w0:=Zge (left - ((ByteArray.size a.1:Nat):Int))
  exact ZcA
def ZFq:Zat Tryz.prog:=⟨145,[.s ZAh, .v ZaC],fun x=>szP x.2.1,fun x=>.c (.int .i64 (szT x.2.1 (bulk x.1))),fun _=>[],fun x hx=>ZFp x.1 x.2.1 hx,Tryz.call145⟩
theorem ZrA (a:Zac) (left:Int) (hpre:szP left):Zai Tryz.prog 66 [.ag (cellsOf Zag a), .c (.int .i64 left)] (.c (.int .i64 (szT left (bulk a)))) []:=by
  refine bc0 [ZBo,Ztj,ZyG,ZFq,ZDp] [] [] [] L0 Tryz.func66 (fun hwf=>?_)
  refine Eq.mpr (β:=(T5 ((pt (szP left))∧(T3 (bif (ltI (szT left (bulk a.2.2.2.2.1)) 0) then (True∧(rI (-1) (szT left (bulk a)))) else (T3 ((pt (szP (szT left (bulk a.2.2.2.2.1))))∧(T3 (bif (ltI (szT (szT left (bulk a.2.2.2.2.1)) (bulk a.2.2.2.2.2.1)) 0) then (True∧(rI (-1) (szT left (bulk a)))) else (T8 (bif (ltI (w64 (szT (szT left (bulk a.2.2.2.2.1)) (bulk a.2.2.2.2.2.1) - (ByteArray.size a.2.2.2.2.2.2.1:Int))) 0) then (True∧(rI (-1) (szT left (bulk a)))) else (T8 (bif (ltI (w64 ((w64 (szT (szT left (bulk a.2.2.2.2.1)) (bulk a.2.2.2.2.2.1) - (ByteArray.size a.2.2.2.2.2.2.1:Int))) - (ByteArray.size a.2.2.2.2.2.2.2.1:Int))) 0) then (True∧(rI (-1) (szT left (bulk a)))) else (T3 ((pt (szP (w64 ((w64 (szT (szT left (bulk a.2.2.2.2.1)) (bulk a.2.2.2.2.2.1) - (ByteArray.size a.2.2.2.2.2.2.1:Int))) - (ByteArray.size a.2.2.2.2.2.2.2.1:Int)))))∧(T3 (bif (ltI (szT (w64 ((w64 (szT (szT left (bulk a.2.2.2.2.1)) (bulk a.2.2.2.2.2.1) - (ByteArray.size a.2.2.2.2.2.2.1:Int))) - (ByteArray.size a.2.2.2.2.2.2.2.1:Int))) (bulk a.2.2.2.2.2.2.2.2.1)) 0) then (True∧(rI (-1) (szT left (bulk a)))) else (T3 ((pt (szP (szT (w64 ((w64 (szT (szT left (bulk a.2.2.2.2.1)) (bulk a.2.2.2.2.2.1) - (ByteArray.size a.2.2.2.2.2.2.1:Int))) - (ByteArray.size a.2.2.2.2.2.2.2.1:Int))) (bulk a.2.2.2.2.2.2.2.2.1))))∧(T3 (bif (ltI (szT (szT (w64 ((w64 (szT (szT left (bulk a.2.2.2.2.1)) (bulk a.2.2.2.2.2.1) - (ByteArray.size a.2.2.2.2.2.2.1:Int))) - (ByteArray.size a.2.2.2.2.2.2.2.1:Int))) (bulk a.2.2.2.2.2.2.2.2.1)) (bulk a.2.2.2.2.2.2.2.2.2.1)) 0) then (True∧(rI (-1) (szT left (bulk a)))) else (T3 ((pt (szP (szT (szT (w64 ((w64 (szT (szT left (bulk a.2.2.2.2.1)) (bulk a.2.2.2.2.2.1) - (ByteArray.size a.2.2.2.2.2.2.1:Int))) - (ByteArray.size a.2.2.2.2.2.2.2.1:Int))) (bulk a.2.2.2.2.2.2.2.2.1)) (bulk a.2.2.2.2.2.2.2.2.2.1))))∧(T3 (bif (ltI (szT (szT (szT (w64 ((w64 (szT (szT left (bulk a.2.2.2.2.1)) (bulk a.2.2.2.2.2.1) - (ByteArray.size a.2.2.2.2.2.2.1:Int))) - (ByteArray.size a.2.2.2.2.2.2.2.1:Int))) (bulk a.2.2.2.2.2.2.2.2.1)) (bulk a.2.2.2.2.2.2.2.2.2.1)) (bulk a.2.2.2.2.2.2.2.2.2.2.1)) 0) then (True∧(rI (-1) (szT left (bulk a)))) else (T2 (rI (szT (szT (szT (w64 ((w64 (szT (szT left (bulk a.2.2.2.2.1)) (bulk a.2.2.2.2.2.1) - (ByteArray.size a.2.2.2.2.2.2.1:Int))) - (ByteArray.size a.2.2.2.2.2.2.2.1:Int))) (bulk a.2.2.2.2.2.2.2.2.1)) (bulk a.2.2.2.2.2.2.2.2.2.1)) (bulk a.2.2.2.2.2.2.2.2.2.2.1)) (szT left (bulk a))))))))))))))))))))))))))))) (by kernel_rfl) ?_
  unfold T2 T3 T5 T8
  obtain ⟨hp0,hp1⟩:=hpre
  have H0:=ZaI left (bulk a)
  have hb:bulk a=bulk a.2.2.2.2.1 + bulk a.2.2.2.2.2.1 + ByteArray.size a.2.2.2.2.2.2.1 + ByteArray.size a.2.2.2.2.2.2.2.1 + bulk a.2.2.2.2.2.2.2.2.1 + bulk a.2.2.2.2.2.2.2.2.2.1 + bulk a.2.2.2.2.2.2.2.2.2.2.1:=by
    have e:bulk a=0 + (0 + (0 + (0 + (bulk a.2.2.2.2.1 + (bulk a.2.2.2.2.2.1 + (ByteArray.size a.2.2.2.2.2.2.1 + (ByteArray.size a.2.2.2.2.2.2.2.1 + (bulk a.2.2.2.2.2.2.2.2.1 + (bulk a.2.2.2.2.2.2.2.2.2.1 + (bulk a.2.2.2.2.2.2.2.2.2.2.1 + (0))))))))))):=rfl
    omega
  have m6:ByteArray.size a.2.2.2.2.2.2.1≤maxLen:=hwf.1.2.2.2.2.2.2.2.1
  have m7:ByteArray.size a.2.2.2.2.2.2.2.1≤maxLen:=hwf.1.2.2.2.2.2.2.2.2.1
  have w4:=ZaI left (bulk a.2.2.2.2.1)
  have w5:=ZaI (szT left (bulk a.2.2.2.2.1)) (bulk a.2.2.2.2.2.1)
  have w6:=Zge ((szT (szT left (bulk a.2.2.2.2.1)) (bulk a.2.2.2.2.2.1)) - ((ByteArray.size a.2.2.2.2.2.2.1:Nat):Int))
  have w7:=Zge ((IntKind.wrap .i64 ((szT (szT left (bulk a.2.2.2.2.1)) (bulk a.2.2.2.2.2.1)) - ((ByteArray.size a.2.2.2.2.2.2.1:Nat):Int))) - ((ByteArray.size a.2.2.2.2.2.2.2.1:Nat):Int))
  have w8:=ZaI (IntKind.wrap .i64 ((IntKind.wrap .i64 ((szT (szT left (bulk a.2.2.2.2.1)) (bulk a.2.2.2.2.2.1)) - ((ByteArray.size a.2.2.2.2.2.2.1:Nat):Int))) - ((ByteArray.size a.2.2.2.2.2.2.2.1:Nat):Int))) (bulk a.2.2.2.2.2.2.2.2.1)
  have w9:=ZaI (szT (IntKind.wrap .i64 ((IntKind.wrap .i64 ((szT (szT left (bulk a.2.2.2.2.1)) (bulk a.2.2.2.2.2.1)) - ((ByteArray.size a.2.2.2.2.2.2.1:Nat):Int))) - ((ByteArray.size a.2.2.2.2.2.2.2.1:Nat):Int))) (bulk a.2.2.2.2.2.2.2.2.1)) (bulk a.2.2.2.2.2.2.2.2.2.1)
  have w10:=ZaI (szT (szT (IntKind.wrap .i64 ((IntKind.wrap .i64 ((szT (szT left (bulk a.2.2.2.2.1)) (bulk a.2.2.2.2.2.1)) - ((ByteArray.size a.2.2.2.2.2.2.1:Nat):Int))) - ((ByteArray.size a.2.2.2.2.2.2.2.1:Nat):Int))) (bulk a.2.2.2.2.2.2.2.2.1)) (bulk a.2.2.2.2.2.2.2.2.2.1)) (bulk a.2.2.2.2.2.2.2.2.2.2.1)
  exact ZcA
def ZrB:Zat Tryz.prog:=⟨66,[.s Zag, .v ZaC],fun x=>szP x.2.1,fun x=>.c (.int .i64 (szT x.2.1 (bulk x.1))),fun _=>[],fun x hx=>ZrA x.1 x.2.1 hx,Tryz.call66⟩
def Zpm (a:List Zac) (left:Int):Nat→List AV→Mem→Za3
  | 5,tm,M=>⟨Nat,fun y=>(Zb2 (Zcx tm [(1, .c (.int .i64 (left - ((List.length a:Nat):Int) - ((Zar (List.take y a):Nat):Int)))),(4, .any),(5, .c (.int .i64 ((y:Nat):Int)))]) 12 14,M),fun y=>(y≤List.length a∧((List.length a:Nat):Int) + ((Zar (List.take y a):Nat):Int)≤left),fun y=>(List.length a - y)⟩
  | _,_,_=>⟨Unit,fun _=>([],[]),fun _=>False,fun _=>0⟩
theorem Zpn (a:List Zac) (left:Int) (hpre:szP left):Zai Tryz.prog 30 [.c (.hs .no Zag a), .c (.int .i64 left)] (.c (.int .i64 (szT left (bulk a)))) []:=by
  refine bc0 [ZrB] [] [] [] (Zpm a left) Tryz.func30 (fun hwf=>?_)
  refine Eq.mpr (β:=(T8 (bif (ltI (w64 (left - (List.length a:Int))) 0) then (True∧(rI (-1) (szT left (bulk a)))) else (True∧((∃ q:Nat,(q≤List.length a∧(List.length a:Int) + (Zar (List.take q a):Int)≤left)∧((lxs [hn Zag a] (vI (w64 (left - (List.length a:Int))) (left - (List.length a:Int) - (Zar (List.take q a):Int))∧lxs [.tp [], .tp []] (True∧vI 0 q∧lxs [ci left,hn Zag a,ci (List.length a),ci (w64 (left - (List.length a:Int))),ci (w64 (left - (List.length a:Int))), .c (.bool false)] (TN 14 (lxs [.tp []] True)))))∧pt (True)))∧∀ y0:Nat,(y0≤List.length a∧(List.length a:Int) + (Zar (List.take y0 a):Int)≤left)→(T4 (bif (ltI y0 (List.length a)) then (T2 ((ix 17 y0 (List.length a))∧(T2 ((pt (szP (left - (List.length a:Int) - (Zar (List.take y0 a):Int))))∧(T3 (bif (ltI (szT (left - (List.length a:Int) - (Zar (List.take y0 a):Int)) (bulk (ZaA a y0))) 0) then (True∧(rI (-1) (szT left (bulk a)))) else (T3 (∃ y0' : Nat,(y0'≤List.length a∧(List.length a:Int) + (Zar (List.take y0' a):Int)≤left)∧(List.length a - y0') < (List.length a - y0)∧((lxs [hn Zag a] (vI (szT (left - (List.length a:Int) - (Zar (List.take y0 a):Int)) (bulk (ZaA a y0))) (left - (List.length a:Int) - (Zar (List.take y0' a):Int))∧lxs [.tp [], .tp []] (True∧vI (w64 ((y0:Int) + 1)) y0'∧lxs [ci left,hn Zag a,ci (List.length a),ci (w64 (left - (List.length a:Int))),ci (w64 (left - (List.length a:Int))), .c (.bool false)] (TN 14 (lxs [.tp []] True)))))∧pt (True)))))))))) else (T2 (rI (left - (List.length a:Int) - (Zar (List.take y0 a):Int)) (szT left (bulk a))))))))))) (by kernel_rfl) ?_
  unfold T2 T3 T4 T8
  obtain ⟨hp0,hp1⟩:=hpre
  have hm:a.length≤maxLen:=hwf.1.1
  have H0:=ZaI left (bulk a)
  have hb:bulk a=a.length + Zar a:=rfl
  have w0:=Zge (left - ((List.length a:Nat):Int))
  unfold maxLen at hm
  have z0:Zar (List.take 0 a)=0:=rfl
  have z1:Zar (List.take a.length a)=Zar a:=by rw [List.take_length]
  simp only [SIA,eq_self]
  refine ⟨fun h=>by omega,fun h=>⟨⟨0,⟨Nat.zero_le _,by omega⟩,?_⟩,fun k hk=>⟨fun hlt=>?_,fun hge=>?_⟩⟩⟩
  · exact ZfE
  · have hlt:k < a.length:=by omega
    have hk:=Zap (t:=Zag) hlt
    have s1:Zar (List.take (k + 1) a)=Zar (List.take k a) + bulk (ZaA a k):=ZdA hk
    have s2:Zar (List.take (k + 1) a)≤Zar a:=Zf0 a (k + 1)
    have k1:=Zbj (k:=k) (by unfold maxLen; omega)
    have w1:=ZaI (left - ((List.length a:Nat):Int) - ((Zar (List.take k a):Nat):Int)) (bulk (ZaA a k))
    (try unfold maxLen at *)
    exact ZfC
  · exact ZfD
def Zpo:Zat Tryz.prog:=⟨30,[.v (.list Zag), .v ZaC],fun x=>szP x.2.1,fun x=>.c (.int .i64 (szT x.2.1 (bulk x.1))),fun _=>[],fun x hx=>Zpn x.1 x.2.1 hx,Tryz.call30⟩
theorem Ztm (a:Zbg) (left:Int) (hpre:szP left):Zai Tryz.prog 9 [.ag (cellsOf ZbP a), .c (.int .i64 left)] (.c (.int .i64 (szT left (bulk a)))) []:=by
  refine bc0 [Zyz,Zpo] [] [] [] L0 Tryz.func9 (fun hwf=>?_)
  refine Eq.mpr (β:=(T5 ((pt (szP left))∧(T3 (bif (ltI (szT left (bulk a.1)) 0) then (True∧(rI (-1) (szT left (bulk a)))) else (T3 ((pt (szP (szT left (bulk a.1))))∧(T3 (bif (ltI (szT (szT left (bulk a.1)) (bulk a.2)) 0) then (True∧(rI (-1) (szT left (bulk a)))) else (T2 (rI (szT (szT left (bulk a.1)) (bulk a.2)) (szT left (bulk a))))))))))))) (by kernel_rfl) ?_
  obtain ⟨hp0,hp1⟩:=hpre
  have H0:=ZaI left (bulk a)
  have hb:bulk a=bulk a.1 + bulk a.2:=by
    have e:bulk a=bulk a.1 + (bulk a.2):=rfl
    omega
  have w0:=ZaI left (bulk a.1)
  have w1:=ZaI (szT left (bulk a.1)) (bulk a.2)
  exact ZcA
def Ztn:Zat Tryz.prog:=⟨9,[.s ZbP, .v ZaC],fun x=>szP x.2.1,fun x=>.c (.int .i64 (szT x.2.1 (bulk x.1))),fun _=>[],fun x hx=>Ztm x.1 x.2.1 hx,Tryz.call9⟩
end Go.Proofs.YtkompmgleojmlaaGreat
