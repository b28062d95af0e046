import Derived.Test.YtafhbjjcpncfnaaGreatILawA
set_option linter.unusedSimpArgs false
set_option linter.unusedVariables false
set_option maxRecDepth 100000
set_option maxHeartbeats 4000000
namespace Go.Proofs.YtafhbjjcpncfnaaGreat
open Go.ChangeShapes Go.WideShapes Go.ChangeAt Go.RowKit Go.Joins Go.Deep
open GoRep (rep bulk)
def ZuR (a:List ByteArray) (left:Int):Nat→List AV→Mem→Zbd
 | 5,tm,M=>⟨Nat,fun y=>(Zcf (Zct tm [(1, .c (.int .i64 (left - (List.length a:Int) - ((ZaN (List.take y a):Nat):Int)))),(4, .any),(5, .c (.int .i64 ((y:Nat):Int)))]) 12 15,M),fun y=>(y≤List.length a∧(List.length a:Int) + ((ZaN (List.take y a):Nat):Int)≤left),fun y=>(List.length a - y)⟩
 | _,_,_=>⟨Unit,fun _=>([],[]),fun _=>False,fun _=>0⟩
theorem ZuS (a:List ByteArray) (left:Int) (hpre:szP left):Zao Tryz.prog 230 [.c (.hs .no Za1 a), .c (.int .i64 left)] (.c (.int .i64 (szT left (bulk a)))) []:=by
 refine bc0 [] [] [] [] (ZuR a left) Tryz.func230 (fun hwf=>?_)
 refine Eq.mpr (β:=T8 (bif ltI (w64 (left - (a.length:Int))) 0 then True∧rI (-1) (szT left (bulk a)) else True∧(∃ q:Nat,(q≤a.length∧(a.length:Int) + (ZaN (List.take q a):Int)≤left)∧lxs [hn Za1 a] (vI (w64 (left - (a.length:Int))) (left - (a.length:Int) - (ZaN (List.take q a):Int))∧lxs [.tp [], .tp []] (True∧vI 0 q∧lxs [ci left,hn Za1 a,ci a.length,ci (w64 (left - (a.length:Int))),ci (w64 (left - (a.length:Int))), .c (.bool false)] (TN 15 (lxs [.tp []] True))))∧pt (True))∧∀ y0:Nat,(y0≤a.length∧(a.length:Int) + (ZaN (List.take y0 a):Int)≤left)→T4 (bif ltI y0 a.length then T3 (ix 1 y0 a.length∧T6 (bif ltI (w64 ((left - (a.length:Int) - (ZaN (List.take y0 a):Int)) - (ByteArray.size (ZaF a y0):Int))) 0 then True∧rI (-1) (szT left (bulk a)) else T3 (∃ y0' : Nat,(y0'≤a.length∧(a.length:Int) + (ZaN (List.take y0' a):Int)≤left)∧(a.length - y0') < (a.length - y0)∧lxs [hn Za1 a] (vI (w64 ((left - (a.length:Int) - (ZaN (List.take y0 a):Int)) - (ByteArray.size (ZaF a y0):Int))) (left - (a.length:Int) - (ZaN (List.take y0' a):Int))∧lxs [.tp [], .tp []] (True∧vI (w64 ((y0:Int) + 1)) y0'∧lxs [ci left,hn Za1 a,ci a.length,ci (w64 (left - (a.length:Int))),ci (w64 (left - (a.length:Int))), .c (.bool false)] (TN 15 (lxs [.tp []] True))))∧pt (True)))) else T2 (rI (left - (a.length:Int) - (ZaN (List.take y0 a):Int)) (szT left (bulk a)))))) (by kernel_rfl) ?_
 unfold T2 T3 T4 T6 T8
 obtain ⟨hp0,hp1⟩:=hpre
 have hm:a.length≤maxLen:=hwf.1.1
 have H0:=Za8 left (bulk a)
 have hb:bulk a=a.length + ZaN a:=rfl
 have w0:=Zh2 (left - (List.length a:Int))
 unfold maxLen at hm
 have z0:ZaN (List.take 0 a)=0:=rfl
 have z1:ZaN (List.take a.length a)=ZaN a:=by rw [List.take_length]
 simp only [SIA,eq_self]
 refine ⟨fun h=>by omega,fun h=>⟨⟨0,⟨Nat.zero_le _,by omega⟩,?_⟩,fun k hk=>⟨fun hlt=>?_,fun hge=>?_⟩⟩⟩
 ·exact Zhk
 ·have hlt:k < a.length:=by omega
  have hk:=Zat (t:=Za1) hlt
  have s1:ZaN (List.take (k + 1) a)=ZaN (List.take k a) + bulk (ZaF a k):=ZeG hk
  have s2:ZaN (List.take (k + 1) a)≤ZaN a:=ZhH a (k + 1)
  have k1:=Zbs (k:=k) (by unfold maxLen; omega)
  have hs:(ZaF a k).size≤maxLen:=ZLp (t:=Za1) hwf.1.2 hlt
  have w1:=Zh2 ((left - (List.length a:Int) - ((ZaN (List.take k a):Nat):Int)) - (ByteArray.size (ZaF a k):Int))
  have hbk:bulk (ZaF a k)=(ZaF a k).size:=rfl
  (try unfold maxLen at *)
  exact Zhi
 ·exact Zhj
def ZuT:ZaE Tryz.prog:=⟨230,[.v (.list Za1), .v Zax],fun x=>szP x.2.1,fun x=>.c (.int .i64 (szT x.2.1 (bulk x.1))),fun _=>[],fun x hx=>ZuS x.1 x.2.1 hx,Tryz.call230⟩
theorem ZCW (a:ZaW) (left:Int) (hpre:szP left):Zao Tryz.prog 193 [.ag [.int .i64 a.1, .hs .no Za1 a.2.1, .int .i64 a.2.2], .c (.int .i64 left)] (.c (.int .i64 (szT left (bulk a)))) []:=by
 refine bc0 [ZuT] [] [] [] L0 Tryz.func193 (fun hwf=>?_)
 refine Eq.mpr (β:=T5 (pt (szP left)∧T3 (bif ltI (szT left (bulk a.2.1)) 0 then True∧rI (-1) (szT left (bulk a)) else T2 (rI (szT left (bulk a.2.1)) (szT left (bulk a)))))) (by kernel_rfl) ?_
 obtain ⟨hp0,hp1⟩:=hpre
 have H0:=Za8 left (bulk a)
 have hb:bulk a=bulk a.2.1:=by
  have e:bulk a=0 + (bulk a.2.1 + (0)):=rfl
  omega
 have w1:=Za8 left (bulk a.2.1)
 exact Zdx
def ZCX:ZaE Tryz.prog:=⟨193,[.s Zak, .v Zax],fun x=>szP x.2.1,fun x=>.c (.int .i64 (szT x.2.1 (bulk x.1))),fun _=>[],fun x hx=>ZCW x.1 x.2.1 hx,Tryz.call193⟩
def Zw5 (a:List ZaW) (left:Int):Nat→List AV→Mem→Zbd
 | 5,tm,M=>⟨Nat,fun y=>(Zcf (Zct tm [(1, .c (.int .i64 (left - (List.length a:Int) - ((ZaN (List.take y a):Nat):Int)))),(4, .any),(5, .c (.int .i64 ((y:Nat):Int)))]) 12 14,M),fun y=>(y≤List.length a∧(List.length a:Int) + ((ZaN (List.take y a):Nat):Int)≤left),fun y=>(List.length a - y)⟩
 | _,_,_=>⟨Unit,fun _=>([],[]),fun _=>False,fun _=>0⟩
theorem Zw6 (a:List ZaW) (left:Int) (hpre:szP left):Zao Tryz.prog 143 [.c (.hs .no Zak a), .c (.int .i64 left)] (.c (.int .i64 (szT left (bulk a)))) []:=by
 refine bc0 [ZCX] [] [] [] (Zw5 a left) Tryz.func143 (fun hwf=>?_)
 refine Eq.mpr (β:=T8 (bif ltI (w64 (left - (a.length:Int))) 0 then True∧rI (-1) (szT left (bulk a)) else True∧(∃ q:Nat,(q≤a.length∧(a.length:Int) + (ZaN (List.take q a):Int)≤left)∧lxs [hn Zak a] (vI (w64 (left - (a.length:Int))) (left - (a.length:Int) - (ZaN (List.take q a):Int))∧lxs [.tp [], .tp []] (True∧vI 0 q∧lxs [ci left,hn Zak a,ci a.length,ci (w64 (left - (a.length:Int))),ci (w64 (left - (a.length:Int))), .c (.bool false)] (TN 14 (lxs [.tp []] True))))∧pt (True))∧∀ y0:Nat,(y0≤a.length∧(a.length:Int) + (ZaN (List.take y0 a):Int)≤left)→T4 (bif ltI y0 a.length then T2 (ix 3 y0 a.length∧T2 (pt (szP (left - (a.length:Int) - (ZaN (List.take y0 a):Int)))∧T3 (bif ltI (szT (left - (a.length:Int) - (ZaN (List.take y0 a):Int)) (bulk (Zas a y0))) 0 then True∧rI (-1) (szT left (bulk a)) else T3 (∃ y0' : Nat,(y0'≤a.length∧(a.length:Int) + (ZaN (List.take y0' a):Int)≤left)∧(a.length - y0') < (a.length - y0)∧lxs [hn Zak a] (vI (szT (left - (a.length:Int) - (ZaN (List.take y0 a):Int)) (bulk (Zas a y0))) (left - (a.length:Int) - (ZaN (List.take y0' a):Int))∧lxs [.tp [], .tp []] (True∧vI (w64 ((y0:Int) + 1)) y0'∧lxs [ci left,hn Zak a,ci a.length,ci (w64 (left - (a.length:Int))),ci (w64 (left - (a.length:Int))), .c (.bool false)] (TN 14 (lxs [.tp []] True))))∧pt (True))))) else T2 (rI (left - (a.length:Int) - (ZaN (List.take y0 a):Int)) (szT left (bulk a)))))) (by kernel_rfl) ?_
 unfold T2 T3 T4 T8
 obtain ⟨hp0,hp1⟩:=hpre
 have hm:a.length≤maxLen:=hwf.1.1
 have H0:=Za8 left (bulk a)
 have hb:bulk a=a.length + ZaN a:=rfl
 have w0:=Zh2 (left - (List.length a:Int))
 unfold maxLen at hm
 have z0:ZaN (List.take 0 a)=0:=rfl
 have z1:ZaN (List.take a.length a)=ZaN a:=by rw [List.take_length]
 simp only [SIA,eq_self]
 refine ⟨fun h=>by omega,fun h=>⟨⟨0,⟨Nat.zero_le _,by omega⟩,?_⟩,fun k hk=>⟨fun hlt=>?_,fun hge=>?_⟩⟩⟩
 ·exact Zhk
 ·have hlt:k < a.length:=by omega
  have hk:=Zat (t:=Zak) hlt
  have s1:ZaN (List.take (k + 1) a)=ZaN (List.take k a) + bulk (Zas a k):=ZeG hk
  have s2:ZaN (List.take (k + 1) a)≤ZaN a:=ZhH a (k + 1)
  have k1:=Zbs (k:=k) (by unfold maxLen; omega)
  have w1:=Za8 (left - (List.length a:Int) - ((ZaN (List.take k a):Nat):Int)) (bulk (Zas a k))
  (try unfold maxLen at *)
  exact Zhi
 ·exact Zhj
def Zw7:ZaE Tryz.prog:=⟨143,[.v (.list Zak), .v Zax],fun x=>szP x.2.1,fun x=>.c (.int .i64 (szT x.2.1 (bulk x.1))),fun _=>[],fun x hx=>Zw6 x.1 x.2.1 hx,Tryz.call143⟩
theorem Zw8 (a:Zb1) (left:Int) (hpre:szP left):Zao Tryz.prog 68 [.ag [.bool a.1, .hs .no Zak a.2], .c (.int .i64 left)] (.c (.int .i64 (szT left (bulk a)))) []:=by
 refine bc0 [Zw7] [] [] [] L0 Tryz.func68 (fun hwf=>?_)
 refine Eq.mpr (β:=T5 (pt (szP left)∧T3 (bif ltI (szT left (bulk a.2)) 0 then True∧rI (-1) (szT left (bulk a)) else T2 (rI (szT left (bulk a.2)) (szT left (bulk a)))))) (by kernel_rfl) ?_
 obtain ⟨hp0,hp1⟩:=hpre
 have H0:=Za8 left (bulk a)
 have hb:bulk a=bulk a.2:=by
  have e:bulk a=0 + (bulk a.2):=rfl
  omega
 have w1:=Za8 left (bulk a.2)
 exact Zdx
def Zw9:ZaE Tryz.prog:=⟨68,[.s Zdd, .v Zax],fun x=>szP x.2.1,fun x=>.c (.int .i64 (szT x.2.1 (bulk x.1))),fun _=>[],fun x hx=>Zw8 x.1 x.2.1 hx,Tryz.call68⟩
theorem ZH7 (a:Zdr) (left:Int) (hpre:szP left):Zao Tryz.prog 192 [.ag [.int .i64 a.1, .int .i64 a.2.1, .str a.2.2], .c (.int .i64 left)] (.c (.int .i64 (szT left (bulk a)))) []:=by
 refine bc0 [] [] [] [] L0 Tryz.func192 (fun hwf=>?_)
 refine Eq.mpr (β:=T10 (bif ltI (w64 (left - (a.2.2.size:Int))) 0 then True∧rI (-1) (szT left (bulk a)) else T2 (rI (w64 (left - (a.2.2.size:Int))) (szT left (bulk a))))) (by kernel_rfl) ?_
 obtain ⟨hp0,hp1⟩:=hpre
 have H0:=Za8 left (bulk a)
 have hb:bulk a=ByteArray.size a.2.2:=by
  have e:bulk a=0 + (0 + (ByteArray.size a.2.2)):=rfl
  omega
 have m2:ByteArray.size a.2.2≤maxLen:=hwf.1.2.2.1
 have w2:=Zh2 (left - (ByteArray.size a.2.2:Int))
 exact Zdx
def ZH8:ZaE Tryz.prog:=⟨192,[.s ZaR, .v Zax],fun x=>szP x.2.1,fun x=>.c (.int .i64 (szT x.2.1 (bulk x.1))),fun _=>[],fun x hx=>ZH7 x.1 x.2.1 hx,Tryz.call192⟩
def ZFR (a:List Zdr) (left:Int):Nat→List AV→Mem→Zbd
 | 5,tm,M=>⟨Nat,fun y=>(Zcf (Zct tm [(1, .c (.int .i64 (left - (List.length a:Int) - ((ZaN (List.take y a):Nat):Int)))),(4, .any),(5, .c (.int .i64 ((y:Nat):Int)))]) 12 14,M),fun y=>(y≤List.length a∧(List.length a:Int) + ((ZaN (List.take y a):Nat):Int)≤left),fun y=>(List.length a - y)⟩
 | _,_,_=>⟨Unit,fun _=>([],[]),fun _=>False,fun _=>0⟩
theorem ZFS (a:List Zdr) (left:Int) (hpre:szP left):Zao Tryz.prog 141 [.c (.hs .no ZaR a), .c (.int .i64 left)] (.c (.int .i64 (szT left (bulk a)))) []:=by
 refine bc0 [ZH8] [] [] [] (ZFR a left) Tryz.func141 (fun hwf=>?_)
 refine Eq.mpr (β:=T8 (bif ltI (w64 (left - (a.length:Int))) 0 then True∧rI (-1) (szT left (bulk a)) else True∧(∃ q:Nat,(q≤a.length∧(a.length:Int) + (ZaN (List.take q a):Int)≤left)∧lxs [hn ZaR a] (vI (w64 (left - (a.length:Int))) (left - (a.length:Int) - (ZaN (List.take q a):Int))∧lxs [.tp [], .tp []] (True∧vI 0 q∧lxs [ci left,hn ZaR a,ci a.length,ci (w64 (left - (a.length:Int))),ci (w64 (left - (a.length:Int))), .c (.bool false)] (TN 14 (lxs [.tp []] True))))∧pt (True))∧∀ y0:Nat,(y0≤a.length∧(a.length:Int) + (ZaN (List.take y0 a):Int)≤left)→T4 (bif ltI y0 a.length then T2 (ix 3 y0 a.length∧T2 (pt (szP (left - (a.length:Int) - (ZaN (List.take y0 a):Int)))∧T3 (bif ltI (szT (left - (a.length:Int) - (ZaN (List.take y0 a):Int)) (bulk (ZaG a y0))) 0 then True∧rI (-1) (szT left (bulk a)) else T3 (∃ y0' : Nat,(y0'≤a.length∧(a.length:Int) + (ZaN (List.take y0' a):Int)≤left)∧(a.length - y0') < (a.length - y0)∧lxs [hn ZaR a] (vI (szT (left - (a.length:Int) - (ZaN (List.take y0 a):Int)) (bulk (ZaG a y0))) (left - (a.length:Int) - (ZaN (List.take y0' a):Int))∧lxs [.tp [], .tp []] (True∧vI (w64 ((y0:Int) + 1)) y0'∧lxs [ci left,hn ZaR a,ci a.length,ci (w64 (left - (a.length:Int))),ci (w64 (left - (a.length:Int))), .c (.bool false)] (TN 14 (lxs [.tp []] True))))∧pt (True))))) else T2 (rI (left - (a.length:Int) - (ZaN (List.take y0 a):Int)) (szT left (bulk a)))))) (by kernel_rfl) ?_
 unfold T2 T3 T4 T8
 obtain ⟨hp0,hp1⟩:=hpre
 have hm:a.length≤maxLen:=hwf.1.1
 have H0:=Za8 left (bulk a)
 have hb:bulk a=a.length + ZaN a:=rfl
 have w0:=Zh2 (left - (List.length a:Int))
 unfold maxLen at hm
 have z0:ZaN (List.take 0 a)=0:=rfl
 have z1:ZaN (List.take a.length a)=ZaN a:=by rw [List.take_length]
 simp only [SIA,eq_self]
 refine ⟨fun h=>by omega,fun h=>⟨⟨0,⟨Nat.zero_le _,by omega⟩,?_⟩,fun k hk=>⟨fun hlt=>?_,fun hge=>?_⟩⟩⟩
 ·exact Zhk
 ·have hlt:k < a.length:=by omega
  have hk:=Zat (t:=ZaR) hlt
  have s1:ZaN (List.take (k + 1) a)=ZaN (List.take k a) + bulk (ZaG a k):=ZeG hk
  have s2:ZaN (List.take (k + 1) a)≤ZaN a:=ZhH a (k + 1)
  have k1:=Zbs (k:=k) (by unfold maxLen; omega)
  have w1:=Za8 (left - (List.length a:Int) - ((ZaN (List.take k a):Nat):Int)) (bulk (ZaG a k))
  (try unfold maxLen at *)
  exact Zhi
 ·exact Zhj
def ZFT:ZaE Tryz.prog:=⟨141,[.v (.list ZaR), .v Zax],fun x=>szP x.2.1,fun x=>.c (.int .i64 (szT x.2.1 (bulk x.1))),fun _=>[],fun x hx=>ZFS x.1 x.2.1 hx,Tryz.call141⟩
theorem ZH9 (a:ZaO) (left:Int) (hpre:szP left):Zao Tryz.prog 65 [.ag (cellsOf Zaj a), .c (.int .i64 left)] (.c (.int .i64 (szT left (bulk a)))) []:=by
 refine bc0 [ZFT] [] [] [] L0 Tryz.func65 (fun hwf=>?_)
 refine Eq.mpr (β:=T10 (bif ltI (w64 (left - (a.1.size:Int))) 0 then True∧rI (-1) (szT left (bulk a)) else T3 (pt (szP (w64 (left - (a.1.size:Int))))∧T3 (bif ltI (szT (w64 (left - (a.1.size:Int))) (bulk a.2.2.2)) 0 then True∧rI (-1) (szT left (bulk a)) else T2 (rI (szT (w64 (left - (a.1.size:Int))) (bulk a.2.2.2)) (szT left (bulk a))))))) (by kernel_rfl) ?_
 obtain ⟨hp0,hp1⟩:=hpre
 have H0:=Za8 left (bulk a)
 have hb:bulk a=ByteArray.size a.1 + bulk a.2.2.2:=by
  have e:bulk a=ByteArray.size a.1 + (0 + (0 + (bulk a.2.2.2))):=rfl
  omega
 have m0:ByteArray.size a.1≤maxLen:=hwf.1.1
 have w0:=Zh2 (left - (ByteArray.size a.1:Int))
 have w3:=Za8 (IntKind.wrap .i64 (left - (ByteArray.size a.1:Int))) (bulk a.2.2.2)
 exact Zdx
def ZIa:ZaE Tryz.prog:=⟨65,[.s Zaj, .v Zax],fun x=>szP x.2.1,fun x=>.c (.int .i64 (szT x.2.1 (bulk x.1))),fun _=>[],fun x hx=>ZH9 x.1 x.2.1 hx,Tryz.call65⟩
def ZFU (a:List ZaO) (left:Int):Nat→List AV→Mem→Zbd
 | 5,tm,M=>⟨Nat,fun y=>(Zcf (Zct tm [(1, .c (.int .i64 (left - (List.length a:Int) - ((ZaN (List.take y a):Nat):Int)))),(4, .any),(5, .c (.int .i64 ((y:Nat):Int)))]) 12 14,M),fun y=>(y≤List.length a∧(List.length a:Int) + ((ZaN (List.take y a):Nat):Int)≤left),fun y=>(List.length a - y)⟩
 | _,_,_=>⟨Unit,fun _=>([],[]),fun _=>False,fun _=>0⟩
theorem ZFV (a:List ZaO) (left:Int) (hpre:szP left):Zao Tryz.prog 30 [.c (.hs .no Zaj a), .c (.int .i64 left)] (.c (.int .i64 (szT left (bulk a)))) []:=by
 refine bc0 [ZIa] [] [] [] (ZFU a left) Tryz.func30 (fun hwf=>?_)
 refine Eq.mpr (β:=T8 (bif ltI (w64 (left - (a.length:Int))) 0 then True∧rI (-1) (szT left (bulk a)) else True∧(∃ q:Nat,(q≤a.length∧(a.length:Int) + (ZaN (List.take q a):Int)≤left)∧lxs [hn Zaj a] (vI (w64 (left - (a.length:Int))) (left - (a.length:Int) - (ZaN (List.take q a):Int))∧lxs [.tp [], .tp []] (True∧vI 0 q∧lxs [ci left,hn Zaj a,ci a.length,ci (w64 (left - (a.length:Int))),ci (w64 (left - (a.length:Int))), .c (.bool false)] (TN 14 (lxs [.tp []] True))))∧pt (True))∧∀ y0:Nat,(y0≤a.length∧(a.length:Int) + (ZaN (List.take y0 a):Int)≤left)→T4 (bif ltI y0 a.length then T2 (ix 4 y0 a.length∧T2 (pt (szP (left - (a.length:Int) - (ZaN (List.take y0 a):Int)))∧T3 (bif ltI (szT (left - (a.length:Int) - (ZaN (List.take y0 a):Int)) (bulk (Zab a y0))) 0 then True∧rI (-1) (szT left (bulk a)) else T3 (∃ y0' : Nat,(y0'≤a.length∧(a.length:Int) + (ZaN (List.take y0' a):Int)≤left)∧(a.length - y0') < (a.length - y0)∧lxs [hn Zaj a] (vI (szT (left - (a.length:Int) - (ZaN (List.take y0 a):Int)) (bulk (Zab a y0))) (left - (a.length:Int) - (ZaN (List.take y0' a):Int))∧lxs [.tp [], .tp []] (True∧vI (w64 ((y0:Int) + 1)) y0'∧lxs [ci left,hn Zaj a,ci a.length,ci (w64 (left - (a.length:Int))),ci (w64 (left - (a.length:Int))), .c (.bool false)] (TN 14 (lxs [.tp []] True))))∧pt (True))))) else T2 (rI (left - (a.length:Int) - (ZaN (List.take y0 a):Int)) (szT left (bulk a)))))) (by kernel_rfl) ?_
 unfold T2 T3 T4 T8
 obtain ⟨hp0,hp1⟩:=hpre
 have hm:a.length≤maxLen:=hwf.1.1
 have H0:=Za8 left (bulk a)
 have hb:bulk a=a.length + ZaN a:=rfl
 have w0:=Zh2 (left - (List.length a:Int))
 unfold maxLen at hm
 have z0:ZaN (List.take 0 a)=0:=rfl
 have z1:ZaN (List.take a.length a)=ZaN a:=by rw [List.take_length]
 simp only [SIA,eq_self]
 refine ⟨fun h=>by omega,fun h=>⟨⟨0,⟨Nat.zero_le _,by omega⟩,?_⟩,fun k hk=>⟨fun hlt=>?_,fun hge=>?_⟩⟩⟩
 ·exact Zhk
 ·have hlt:k < a.length:=by omega
  have hk:=Zat (t:=Zaj) hlt
  have s1:ZaN (List.take (k + 1) a)=ZaN (List.take k a) + bulk (Zab a k):=ZeG hk
  have s2:ZaN (List.take (k + 1) a)≤ZaN a:=ZhH a (k + 1)
  have k1:=Zbs (k:=k) (by unfold maxLen; omega)
  have w1:=Za8 (left - (List.length a:Int) - ((ZaN (List.take k a):Nat):Int)) (bulk (Zab a k))
  (try unfold maxLen at *)
  exact Zhi
 ·exact Zhj
def ZFW:ZaE Tryz.prog:=⟨30,[.v (.list Zaj), .v Zax],fun x=>szP x.2.1,fun x=>.c (.int .i64 (szT x.2.1 (bulk x.1))),fun _=>[],fun x hx=>ZFV x.1 x.2.1 hx,Tryz.call30⟩
theorem Zxa (a:ZaA) (left:Int) (hpre:szP left):Zao Tryz.prog 66 [.ag (cellsOf Zag a), .c (.int .i64 left)] (.c (.int .i64 (szT left (bulk a)))) []:=by
 refine bc0 [] [] [] [] L0 Tryz.func66 (fun hwf=>?_)
 refine Eq.mpr (β:=T10 (bif ltI (w64 (left - (a.2.2.2.2.1.size:Int))) 0 then True∧rI (-1) (szT left (bulk a)) else T8 (bif ltI (w64 ((w64 (left - (a.2.2.2.2.1.size:Int))) - (a.2.2.2.2.2.size:Int))) 0 then True∧rI (-1) (szT left (bulk a)) else T2 (rI (w64 ((w64 (left - (a.2.2.2.2.1.size:Int))) - (a.2.2.2.2.2.size:Int))) (szT left (bulk a)))))) (by kernel_rfl) ?_
 obtain ⟨hp0,hp1⟩:=hpre
 have H0:=Za8 left (bulk a)
 have hb:bulk a=ByteArray.size a.2.2.2.2.1 + ByteArray.size a.2.2.2.2.2:=by
  have e:bulk a=0 + (0 + (0 + (0 + (ByteArray.size a.2.2.2.2.1 + (ByteArray.size a.2.2.2.2.2))))):=rfl
  omega
 have m4:ByteArray.size a.2.2.2.2.1≤maxLen:=hwf.1.2.2.2.2.1
 have m5:ByteArray.size a.2.2.2.2.2≤maxLen:=hwf.1.2.2.2.2.2.1
 have w4:=Zh2 (left - (ByteArray.size a.2.2.2.2.1:Int))
 have w5:=Zh2 ((IntKind.wrap .i64 (left - (ByteArray.size a.2.2.2.2.1:Int))) - (ByteArray.size a.2.2.2.2.2:Int))
 exact Zdx
def Zxb:ZaE Tryz.prog:=⟨66,[.s Zag, .v Zax],fun x=>szP x.2.1,fun x=>.c (.int .i64 (szT x.2.1 (bulk x.1))),fun _=>[],fun x hx=>Zxa x.1 x.2.1 hx,Tryz.call66⟩
def ZuU (a:List ZaA) (left:Int):Nat→List AV→Mem→Zbd
 | 5,tm,M=>⟨Nat,fun y=>(Zcf (Zct tm [(1, .c (.int .i64 (left - (List.length a:Int) - ((ZaN (List.take y a):Nat):Int)))),(4, .any),(5, .c (.int .i64 ((y:Nat):Int)))]) 12 14,M),fun y=>(y≤List.length a∧(List.length a:Int) + ((ZaN (List.take y a):Nat):Int)≤left),fun y=>(List.length a - y)⟩
 | _,_,_=>⟨Unit,fun _=>([],[]),fun _=>False,fun _=>0⟩
theorem ZuV (a:List ZaA) (left:Int) (hpre:szP left):Zao Tryz.prog 31 [.c (.hs .no Zag a), .c (.int .i64 left)] (.c (.int .i64 (szT left (bulk a)))) []:=by
 refine bc0 [Zxb] [] [] [] (ZuU a left) Tryz.func31 (fun hwf=>?_)
 refine Eq.mpr (β:=T8 (bif ltI (w64 (left - (a.length:Int))) 0 then True∧rI (-1) (szT left (bulk a)) else True∧(∃ q:Nat,(q≤a.length∧(a.length:Int) + (ZaN (List.take q a):Int)≤left)∧lxs [hn Zag a] (vI (w64 (left - (a.length:Int))) (left - (a.length:Int) - (ZaN (List.take q a):Int))∧lxs [.tp [], .tp []] (True∧vI 0 q∧lxs [ci left,hn Zag a,ci a.length,ci (w64 (left - (a.length:Int))),ci (w64 (left - (a.length:Int))), .c (.bool false)] (TN 14 (lxs [.tp []] True))))∧pt (True))∧∀ y0:Nat,(y0≤a.length∧(a.length:Int) + (ZaN (List.take y0 a):Int)≤left)→T4 (bif ltI y0 a.length then T2 (ix 6 y0 a.length∧T2 (pt (szP (left - (a.length:Int) - (ZaN (List.take y0 a):Int)))∧T3 (bif ltI (szT (left - (a.length:Int) - (ZaN (List.take y0 a):Int)) (bulk (Zac a y0))) 0 then True∧rI (-1) (szT left (bulk a)) else T3 (∃ y0' : Nat,(y0'≤a.length∧(a.length:Int) + (ZaN (List.take y0' a):Int)≤left)∧(a.length - y0') < (a.length - y0)∧lxs [hn Zag a] (vI (szT (left - (a.length:Int) - (ZaN (List.take y0 a):Int)) (bulk (Zac a y0))) (left - (a.length:Int) - (ZaN (List.take y0' a):Int))∧lxs [.tp [], .tp []] (True∧vI (w64 ((y0:Int) + 1)) y0'∧lxs [ci left,hn Zag a,ci a.length,ci (w64 (left - (a.length:Int))),ci (w64 (left - (a.length:Int))), .c (.bool false)] (TN 14 (lxs [.tp []] True))))∧pt (True))))) else T2 (rI (left - (a.length:Int) - (ZaN (List.take y0 a):Int)) (szT left (bulk a)))))) (by kernel_rfl) ?_
 unfold T2 T3 T4 T8
 obtain ⟨hp0,hp1⟩:=hpre
 have hm:a.length≤maxLen:=hwf.1.1
 have H0:=Za8 left (bulk a)
 have hb:bulk a=a.length + ZaN a:=rfl
 have w0:=Zh2 (left - (List.length a:Int))
 unfold maxLen at hm
 have z0:ZaN (List.take 0 a)=0:=rfl
 have z1:ZaN (List.take a.length a)=ZaN a:=by rw [List.take_length]
 simp only [SIA,eq_self]
 refine ⟨fun h=>by omega,fun h=>⟨⟨0,⟨Nat.zero_le _,by omega⟩,?_⟩,fun k hk=>⟨fun hlt=>?_,fun hge=>?_⟩⟩⟩
 ·exact Zhk
 ·have hlt:k < a.length:=by omega
  have hk:=Zat (t:=Zag) hlt
  have s1:ZaN (List.take (k + 1) a)=ZaN (List.take k a) + bulk (Zac a k):=ZeG hk
  have s2:ZaN (List.take (k + 1) a)≤ZaN a:=ZhH a (k + 1)
  have k1:=Zbs (k:=k) (by unfold maxLen; omega)
  have w1:=Za8 (left - (List.length a:Int) - ((ZaN (List.take k a):Nat):Int)) (bulk (Zac a k))
  (try unfold maxLen at *)
  exact Zhi
 ·exact Zhj
def ZuW:ZaE Tryz.prog:=⟨31,[.v (.list Zag), .v Zax],fun x=>szP x.2.1,fun x=>.c (.int .i64 (szT x.2.1 (bulk x.1))),fun _=>[],fun x hx=>ZuV x.1 x.2.1 hx,Tryz.call31⟩
theorem ZCY (a:ZaI) (left:Int) (hpre:szP left):Zao Tryz.prog 14 [.ag (cellsOf ZbJ a), .c (.int .i64 left)] (.c (.int .i64 (szT left (bulk a)))) []:=by
 refine bc0 [ZFW,ZuW] [] [] [] L0 Tryz.func14 (fun hwf=>?_)
 refine Eq.mpr (β:=T5 (pt (szP left)∧T3 (bif ltI (szT left (bulk a.1)) 0 then True∧rI (-1) (szT left (bulk a)) else T3 (pt (szP (szT left (bulk a.1)))∧T3 (bif ltI (szT (szT left (bulk a.1)) (bulk a.2.1)) 0 then True∧rI (-1) (szT left (bulk a)) else T2 (rI (szT (szT left (bulk a.1)) (bulk a.2.1)) (szT left (bulk a)))))))) (by kernel_rfl) ?_
 obtain ⟨hp0,hp1⟩:=hpre
 have H0:=Za8 left (bulk a)
 have hb:bulk a=bulk a.1 + bulk a.2.1:=by
  have e:bulk a=bulk a.1 + (bulk a.2.1 + (0)):=rfl
  omega
 have w0:=Za8 left (bulk a.1)
 have w1:=Za8 (szT left (bulk a.1)) (bulk a.2.1)
 exact Zdx
def ZCZ:ZaE Tryz.prog:=⟨14,[.s ZbJ, .v Zax],fun x=>szP x.2.1,fun x=>.c (.int .i64 (szT x.2.1 (bulk x.1))),fun _=>[],fun x hx=>ZCY x.1 x.2.1 hx,Tryz.call14⟩
theorem ZC0 (a:List ZbT) (left:Int) (hpre:szP left):Zao Tryz.prog 142 [.c (.hs .no Zay a), .c (.int .i64 left)] (.c (.int .i64 (szT left (bulk a)))) []:=by
 refine bc0 [] [] [] [] L0 Tryz.func142 (fun hwf=>?_)
 refine Eq.mpr (β:=T8 (bif ltI (w64 (left - (a.length:Int))) 0 then True∧rI (-1) (szT left (bulk a)) else T2 (rI (w64 (left - (a.length:Int))) (szT left (bulk a))))) (by kernel_rfl) ?_
 obtain ⟨hp0,hp1⟩:=hpre
 have hm:a.length≤maxLen:=hwf.1.1
 have H0:=Za8 left (bulk a)
 have hb:bulk a=a.length + ZaN a:=rfl
 have w0:=Zh2 (left - (List.length a:Int))
 unfold maxLen at hm
 have z1:ZaN a=0:=Zts (fun _=>rfl) a
 exact ZcG
def ZC1:ZaE Tryz.prog:=⟨142,[.v (.list Zay), .v Zax],fun x=>szP x.2.1,fun x=>.c (.int .i64 (szT x.2.1 (bulk x.1))),fun _=>[],fun x hx=>ZC0 x.1 x.2.1 hx,Tryz.call142⟩
theorem ZFX (a:List ZbT) (left:Int) (hpre:szP left):Zao Tryz.prog 67 [.ag [.hs .no Zay a], .c (.int .i64 left)] (.c (.int .i64 (szT left (bulk a)))) []:=by
 refine bc0 [ZC1] [] [] [] L0 Tryz.func67 (fun hwf=>?_)
 refine Eq.mpr (β:=T5 (pt (szP left)∧T3 (bif ltI (szT left (bulk a)) 0 then True∧rI (-1) (szT left (bulk a)) else T2 (rI (szT left (bulk a)) (szT left (bulk a)))))) (by kernel_rfl) ?_
 obtain ⟨hp0,hp1⟩:=hpre
 have H0:=Za8 left (bulk a)
 have hb:bulk a=bulk a:=by
  have e:bulk a=bulk a:=rfl
  omega
 have w0:=Za8 left (bulk a)
 exact Zdx
def ZFY:ZaE Tryz.prog:=⟨67,[.s (.list Zay), .v Zax],fun x=>szP x.2.1,fun x=>.c (.int .i64 (szT x.2.1 (bulk x.1))),fun _=>[],fun x hx=>ZFX x.1 x.2.1 hx,Tryz.call67⟩
theorem ZFZ (a:ZaM) (left:Int) (hpre:szP left):Zao Tryz.prog 194 [.ag (cellsOf Zal a), .c (.int .i64 left)] (.c (.int .i64 (szT left (bulk a)))) []:=by
 refine bc0 [] [] [] [] L0 Tryz.func194 (fun hwf=>?_)
 refine Eq.mpr (β:=T10 (bif ltI (w64 (left - (a.2.2.2.size:Int))) 0 then True∧rI (-1) (szT left (bulk a)) else T2 (rI (w64 (left - (a.2.2.2.size:Int))) (szT left (bulk a))))) (by kernel_rfl) ?_
 obtain ⟨hp0,hp1⟩:=hpre
 have H0:=Za8 left (bulk a)
 have hb:bulk a=ByteArray.size a.2.2.2:=by
  have e:bulk a=0 + (0 + (0 + (ByteArray.size a.2.2.2))):=rfl
  omega
 have m3:ByteArray.size a.2.2.2≤maxLen:=hwf.1.2.2.2.1
 have w3:=Zh2 (left - (ByteArray.size a.2.2.2:Int))
 exact Zdx
def ZF0:ZaE Tryz.prog:=⟨194,[.s Zal, .v Zax],fun x=>szP x.2.1,fun x=>.c (.int .i64 (szT x.2.1 (bulk x.1))),fun _=>[],fun x hx=>ZFZ x.1 x.2.1 hx,Tryz.call194⟩
def ZC2 (a:List ZaM) (left:Int):Nat→List AV→Mem→Zbd
 | 5,tm,M=>⟨Nat,fun y=>(Zcf (Zct tm [(1, .c (.int .i64 (left - (List.length a:Int) - ((ZaN (List.take y a):Nat):Int)))),(4, .any),(5, .c (.int .i64 ((y:Nat):Int)))]) 12 14,M),fun y=>(y≤List.length a∧(List.length a:Int) + ((ZaN (List.take y a):Nat):Int)≤left),fun y=>(List.length a - y)⟩
 | _,_,_=>⟨Unit,fun _=>([],[]),fun _=>False,fun _=>0⟩
theorem ZC3 (a:List ZaM) (left:Int) (hpre:szP left):Zao Tryz.prog 144 [.c (.hs .no Zal a), .c (.int .i64 left)] (.c (.int .i64 (szT left (bulk a)))) []:=by
 refine bc0 [ZF0] [] [] [] (ZC2 a left) Tryz.func144 (fun hwf=>?_)
 refine Eq.mpr (β:=T8 (bif ltI (w64 (left - (a.length:Int))) 0 then True∧rI (-1) (szT left (bulk a)) else True∧(∃ q:Nat,(q≤a.length∧(a.length:Int) + (ZaN (List.take q a):Int)≤left)∧lxs [hn Zal a] (vI (w64 (left - (a.length:Int))) (left - (a.length:Int) - (ZaN (List.take q a):Int))∧lxs [.tp [], .tp []] (True∧vI 0 q∧lxs [ci left,hn Zal a,ci a.length,ci (w64 (left - (a.length:Int))),ci (w64 (left - (a.length:Int))), .c (.bool false)] (TN 14 (lxs [.tp []] True))))∧pt (True))∧∀ y0:Nat,(y0≤a.length∧(a.length:Int) + (ZaN (List.take y0 a):Int)≤left)→T4 (bif ltI y0 a.length then T2 (ix 4 y0 a.length∧T2 (pt (szP (left - (a.length:Int) - (ZaN (List.take y0 a):Int)))∧T3 (bif ltI (szT (left - (a.length:Int) - (ZaN (List.take y0 a):Int)) (bulk (Zaf a y0))) 0 then True∧rI (-1) (szT left (bulk a)) else T3 (∃ y0' : Nat,(y0'≤a.length∧(a.length:Int) + (ZaN (List.take y0' a):Int)≤left)∧(a.length - y0') < (a.length - y0)∧lxs [hn Zal a] (vI (szT (left - (a.length:Int) - (ZaN (List.take y0 a):Int)) (bulk (Zaf a y0))) (left - (a.length:Int) - (ZaN (List.take y0' a):Int))∧lxs [.tp [], .tp []] (True∧vI (w64 ((y0:Int) + 1)) y0'∧lxs [ci left,hn Zal a,ci a.length,ci (w64 (left - (a.length:Int))),ci (w64 (left - (a.length:Int))), .c (.bool false)] (TN 14 (lxs [.tp []] True))))∧pt (True))))) else T2 (rI (left - (a.length:Int) - (ZaN (List.take y0 a):Int)) (szT left (bulk a)))))) (by kernel_rfl) ?_
 unfold T2 T3 T4 T8
 obtain ⟨hp0,hp1⟩:=hpre
 have hm:a.length≤maxLen:=hwf.1.1
 have H0:=Za8 left (bulk a)
 have hb:bulk a=a.length + ZaN a:=rfl
 have w0:=Zh2 (left - (List.length a:Int))
 unfold maxLen at hm
 have z0:ZaN (List.take 0 a)=0:=rfl
 have z1:ZaN (List.take a.length a)=ZaN a:=by rw [List.take_length]
 simp only [SIA,eq_self]
 refine ⟨fun h=>by omega,fun h=>⟨⟨0,⟨Nat.zero_le _,by omega⟩,?_⟩,fun k hk=>⟨fun hlt=>?_,fun hge=>?_⟩⟩⟩
 ·exact Zhk
 ·have hlt:k < a.length:=by omega
  have hk:=Zat (t:=Zal) hlt
  have s1:ZaN (List.take (k + 1) a)=ZaN (List.take k a) + bulk (Zaf a k):=ZeG hk
  have s2:ZaN (List.take (k + 1) a)≤ZaN a:=ZhH a (k + 1)
  have k1:=Zbs (k:=k) (by unfold maxLen; omega)
  have w1:=Za8 (left - (List.length a:Int) - ((ZaN (List.take k a):Nat):Int)) (bulk (Zaf a k))
  (try unfold maxLen at *)
  exact Zhi
 ·exact Zhj
def ZC4:ZaE Tryz.prog:=⟨144,[.v (.list Zal), .v Zax],fun x=>szP x.2.1,fun x=>.c (.int .i64 (szT x.2.1 (bulk x.1))),fun _=>[],fun x hx=>ZC3 x.1 x.2.1 hx,Tryz.call144⟩
theorem ZC5 (a:ZbH) (left:Int) (hpre:szP left):Zao Tryz.prog 69 [.ag [.hs .no Zal a.1, .bool a.2.1, .bool a.2.2], .c (.int .i64 left)] (.c (.int .i64 (szT left (bulk a)))) []:=by
 refine bc0 [ZC4] [] [] [] L0 Tryz.func69 (fun hwf=>?_)
 refine Eq.mpr (β:=T5 (pt (szP left)∧T3 (bif ltI (szT left (bulk a.1)) 0 then True∧rI (-1) (szT left (bulk a)) else T2 (rI (szT left (bulk a.1)) (szT left (bulk a)))))) (by kernel_rfl) ?_
 obtain ⟨hp0,hp1⟩:=hpre
 have H0:=Za8 left (bulk a)
 have hb:bulk a=bulk a.1:=by
  have e:bulk a=bulk a.1 + (0 + (0)):=rfl
  omega
 have w0:=Za8 left (bulk a.1)
 exact Zdx
def ZC6:ZaE Tryz.prog:=⟨69,[.s Zdv, .v Zax],fun x=>szP x.2.1,fun x=>.c (.int .i64 (szT x.2.1 (bulk x.1))),fun _=>[],fun x hx=>ZC5 x.1 x.2.1 hx,Tryz.call69⟩
theorem ZIb (a:ZsC) (left:Int) (hpre:szP left):Zao Tryz.prog 71 [.ag [.str a.1, .str a.2], .c (.int .i64 left)] (.c (.int .i64 (szT left (bulk a)))) []:=by
 refine bc0 [] [] [] [] L0 Tryz.func71 (fun hwf=>?_)
 refine Eq.mpr (β:=T10 (bif ltI (w64 (left - (a.1.size:Int))) 0 then True∧rI (-1) (szT left (bulk a)) else T8 (bif ltI (w64 ((w64 (left - (a.1.size:Int))) - (a.2.size:Int))) 0 then True∧rI (-1) (szT left (bulk a)) else T2 (rI (w64 ((w64 (left - (a.1.size:Int))) - (a.2.size:Int))) (szT left (bulk a)))))) (by kernel_rfl) ?_
 obtain ⟨hp0,hp1⟩:=hpre
 have H0:=Za8 left (bulk a)
 have hb:bulk a=ByteArray.size a.1 + ByteArray.size a.2:=by
  have e:bulk a=ByteArray.size a.1 + (ByteArray.size a.2):=rfl
  omega
 have m0:ByteArray.size a.1≤maxLen:=hwf.1.1
 have m1:ByteArray.size a.2≤maxLen:=hwf.1.2.1
 have w0:=Zh2 (left - (ByteArray.size a.1:Int))
 have w1:=Zh2 ((IntKind.wrap .i64 (left - (ByteArray.size a.1:Int))) - (ByteArray.size a.2:Int))
 exact Zdx
def ZIc:ZaE Tryz.prog:=⟨71,[.s Zmx, .v Zax],fun x=>szP x.2.1,fun x=>.c (.int .i64 (szT x.2.1 (bulk x.1))),fun _=>[],fun x hx=>ZIb x.1 x.2.1 hx,Tryz.call71⟩
theorem ZKb (a:GIn) (left:Int) (hpre:szP left):Zao Tryz.prog 70 [.ag [.str a.1, .bool a.2], .c (.int .i64 left)] (.c (.int .i64 (szT left (bulk a)))) []:=by
 refine bc0 [] [] [] [] L0 Tryz.func70 (fun hwf=>?_)
 refine Eq.mpr (β:=T10 (bif ltI (w64 (left - (a.1.size:Int))) 0 then True∧rI (-1) (szT left (bulk a)) else T2 (rI (w64 (left - (a.1.size:Int))) (szT left (bulk a))))) (by kernel_rfl) ?_
 obtain ⟨hp0,hp1⟩:=hpre
 have H0:=Za8 left (bulk a)
 have hb:bulk a=ByteArray.size a.1:=by
  have e:bulk a=ByteArray.size a.1 + (0):=rfl
  omega
 have m0:ByteArray.size a.1≤maxLen:=hwf.1.1
 have w0:=Zh2 (left - (ByteArray.size a.1:Int))
 exact Zdx
def ZKc:ZaE Tryz.prog:=⟨70,[.s ZEU, .v Zax],fun x=>szP x.2.1,fun x=>.c (.int .i64 (szT x.2.1 (bulk x.1))),fun _=>[],fun x hx=>ZKb x.1 x.2.1 hx,Tryz.call70⟩
theorem ZuX (a:Zad) (left:Int) (hpre:szP left):Zao Tryz.prog 32 [.ag (cellsOf Zae a), .c (.int .i64 left)] (.c (.int .i64 (szT left (bulk a)))) []:=by
 refine bc0 [ZFY,Zw9,ZC6,ZKc,ZIc] [] [] [] L0 Tryz.func32 (fun hwf=>?_)
 refine Eq.mpr (β:=T5 (pt (szP left)∧T3 (bif ltI (szT left (bulk a.2.2.2.2.1)) 0 then True∧rI (-1) (szT left (bulk a)) else T3 (pt (szP (szT left (bulk a.2.2.2.2.1)))∧T3 (bif ltI (szT (szT left (bulk a.2.2.2.2.1)) (bulk a.2.2.2.2.2.1)) 0 then True∧rI (-1) (szT left (bulk a)) else T8 (bif ltI (w64 (szT (szT left (bulk a.2.2.2.2.1)) (bulk a.2.2.2.2.2.1) - (a.2.2.2.2.2.2.1.size:Int))) 0 then True∧rI (-1) (szT left (bulk a)) else T8 (bif ltI (w64 ((w64 (szT (szT left (bulk a.2.2.2.2.1)) (bulk a.2.2.2.2.2.1) - (a.2.2.2.2.2.2.1.size:Int))) - (a.2.2.2.2.2.2.2.1.size:Int))) 0 then True∧rI (-1) (szT left (bulk a)) else T3 (pt (szP (w64 ((w64 (szT (szT left (bulk a.2.2.2.2.1)) (bulk a.2.2.2.2.2.1) - (a.2.2.2.2.2.2.1.size:Int))) - (a.2.2.2.2.2.2.2.1.size:Int))))∧T3 (bif ltI (szT (w64 ((w64 (szT (szT left (bulk a.2.2.2.2.1)) (bulk a.2.2.2.2.2.1) - (a.2.2.2.2.2.2.1.size:Int))) - (a.2.2.2.2.2.2.2.1.size:Int))) (bulk a.2.2.2.2.2.2.2.2.1)) 0 then True∧rI (-1) (szT left (bulk a)) else T3 (pt (szP (szT (w64 ((w64 (szT (szT left (bulk a.2.2.2.2.1)) (bulk a.2.2.2.2.2.1) - (a.2.2.2.2.2.2.1.size:Int))) - (a.2.2.2.2.2.2.2.1.size:Int))) (bulk a.2.2.2.2.2.2.2.2.1)))∧T3 (bif ltI (szT (szT (w64 ((w64 (szT (szT left (bulk a.2.2.2.2.1)) (bulk a.2.2.2.2.2.1) - (a.2.2.2.2.2.2.1.size:Int))) - (a.2.2.2.2.2.2.2.1.size:Int))) (bulk a.2.2.2.2.2.2.2.2.1)) (bulk a.2.2.2.2.2.2.2.2.2.1)) 0 then True∧rI (-1) (szT left (bulk a)) else T3 (pt (szP (szT (szT (w64 ((w64 (szT (szT left (bulk a.2.2.2.2.1)) (bulk a.2.2.2.2.2.1) - (a.2.2.2.2.2.2.1.size:Int))) - (a.2.2.2.2.2.2.2.1.size:Int))) (bulk a.2.2.2.2.2.2.2.2.1)) (bulk a.2.2.2.2.2.2.2.2.2.1)))∧T3 (bif ltI (szT (szT (szT (w64 ((w64 (szT (szT left (bulk a.2.2.2.2.1)) (bulk a.2.2.2.2.2.1) - (a.2.2.2.2.2.2.1.size:Int))) - (a.2.2.2.2.2.2.2.1.size:Int))) (bulk a.2.2.2.2.2.2.2.2.1)) (bulk a.2.2.2.2.2.2.2.2.2.1)) (bulk a.2.2.2.2.2.2.2.2.2.2.1)) 0 then True∧rI (-1) (szT left (bulk a)) else T2 (rI (szT (szT (szT (w64 ((w64 (szT (szT left (bulk a.2.2.2.2.1)) (bulk a.2.2.2.2.2.1) - (a.2.2.2.2.2.2.1.size:Int))) - (a.2.2.2.2.2.2.2.1.size:Int))) (bulk a.2.2.2.2.2.2.2.2.1)) (bulk a.2.2.2.2.2.2.2.2.2.1)) (bulk a.2.2.2.2.2.2.2.2.2.2.1)) (szT left (bulk a)))))))))))))))) (by kernel_rfl) ?_
 unfold T2 T3 T5 T8
 obtain ⟨hp0,hp1⟩:=hpre
 have H0:=Za8 left (bulk a)
 have hb:bulk a=bulk a.2.2.2.2.1 + bulk a.2.2.2.2.2.1 + ByteArray.size a.2.2.2.2.2.2.1 + ByteArray.size a.2.2.2.2.2.2.2.1 + bulk a.2.2.2.2.2.2.2.2.1 + bulk a.2.2.2.2.2.2.2.2.2.1 + bulk a.2.2.2.2.2.2.2.2.2.2.1:=by
  have e:bulk a=0 + (0 + (0 + (0 + (bulk a.2.2.2.2.1 + (bulk a.2.2.2.2.2.1 + (ByteArray.size a.2.2.2.2.2.2.1 + (ByteArray.size a.2.2.2.2.2.2.2.1 + (bulk a.2.2.2.2.2.2.2.2.1 + (bulk a.2.2.2.2.2.2.2.2.2.1 + (bulk a.2.2.2.2.2.2.2.2.2.2.1 + (0))))))))))):=rfl
  omega
 have m6:ByteArray.size a.2.2.2.2.2.2.1≤maxLen:=hwf.1.2.2.2.2.2.2.2.1
 have m7:ByteArray.size a.2.2.2.2.2.2.2.1≤maxLen:=hwf.1.2.2.2.2.2.2.2.2.1
 have w4:=Za8 left (bulk a.2.2.2.2.1)
 have w5:=Za8 (szT left (bulk a.2.2.2.2.1)) (bulk a.2.2.2.2.2.1)
 have w6:=Zh2 ((szT (szT left (bulk a.2.2.2.2.1)) (bulk a.2.2.2.2.2.1)) - (ByteArray.size a.2.2.2.2.2.2.1:Int))
 have w7:=Zh2 ((IntKind.wrap .i64 ((szT (szT left (bulk a.2.2.2.2.1)) (bulk a.2.2.2.2.2.1)) - (ByteArray.size a.2.2.2.2.2.2.1:Int))) - (ByteArray.size a.2.2.2.2.2.2.2.1:Int))
 have w8:=Za8 (IntKind.wrap .i64 ((IntKind.wrap .i64 ((szT (szT left (bulk a.2.2.2.2.1)) (bulk a.2.2.2.2.2.1)) - (ByteArray.size a.2.2.2.2.2.2.1:Int))) - (ByteArray.size a.2.2.2.2.2.2.2.1:Int))) (bulk a.2.2.2.2.2.2.2.2.1)
 have w9:=Za8 (szT (IntKind.wrap .i64 ((IntKind.wrap .i64 ((szT (szT left (bulk a.2.2.2.2.1)) (bulk a.2.2.2.2.2.1)) - (ByteArray.size a.2.2.2.2.2.2.1:Int))) - (ByteArray.size a.2.2.2.2.2.2.2.1:Int))) (bulk a.2.2.2.2.2.2.2.2.1)) (bulk a.2.2.2.2.2.2.2.2.2.1)
 have w10:=Za8 (szT (szT (IntKind.wrap .i64 ((IntKind.wrap .i64 ((szT (szT left (bulk a.2.2.2.2.1)) (bulk a.2.2.2.2.2.1)) - (ByteArray.size a.2.2.2.2.2.2.1:Int))) - (ByteArray.size a.2.2.2.2.2.2.2.1:Int))) (bulk a.2.2.2.2.2.2.2.2.1)) (bulk a.2.2.2.2.2.2.2.2.2.1)) (bulk a.2.2.2.2.2.2.2.2.2.2.1)
 exact Zdx
def ZuY:ZaE Tryz.prog:=⟨32,[.s Zae, .v Zax],fun x=>szP x.2.1,fun x=>.c (.int .i64 (szT x.2.1 (bulk x.1))),fun _=>[],fun x hx=>ZuX x.1 x.2.1 hx,Tryz.call32⟩
def Zsk (a:List Zad) (left:Int):Nat→List AV→Mem→Zbd
 | 5,tm,M=>⟨Nat,fun y=>(Zcf (Zct tm [(1, .c (.int .i64 (left - (List.length a:Int) - ((ZaN (List.take y a):Nat):Int)))),(4, .any),(5, .c (.int .i64 ((y:Nat):Int)))]) 12 14,M),fun y=>(y≤List.length a∧(List.length a:Int) + ((ZaN (List.take y a):Nat):Int)≤left),fun y=>(List.length a - y)⟩
 | _,_,_=>⟨Unit,fun _=>([],[]),fun _=>False,fun _=>0⟩
theorem Zsl (a:List Zad) (left:Int) (hpre:szP left):Zao Tryz.prog 15 [.c (.hs .no Zae a), .c (.int .i64 left)] (.c (.int .i64 (szT left (bulk a)))) []:=by
 refine bc0 [ZuY] [] [] [] (Zsk a left) Tryz.func15 (fun hwf=>?_)
 refine Eq.mpr (β:=T8 (bif ltI (w64 (left - (a.length:Int))) 0 then True∧rI (-1) (szT left (bulk a)) else True∧(∃ q:Nat,(q≤a.length∧(a.length:Int) + (ZaN (List.take q a):Int)≤left)∧lxs [hn Zae a] (vI (w64 (left - (a.length:Int))) (left - (a.length:Int) - (ZaN (List.take q a):Int))∧lxs [.tp [], .tp []] (True∧vI 0 q∧lxs [ci left,hn Zae a,ci a.length,ci (w64 (left - (a.length:Int))),ci (w64 (left - (a.length:Int))), .c (.bool false)] (TN 14 (lxs [.tp []] True))))∧pt (True))∧∀ y0:Nat,(y0≤a.length∧(a.length:Int) + (ZaN (List.take y0 a):Int)≤left)→T4 (bif ltI y0 a.length then T2 (ix 17 y0 a.length∧T2 (pt (szP (left - (a.length:Int) - (ZaN (List.take y0 a):Int)))∧T3 (bif ltI (szT (left - (a.length:Int) - (ZaN (List.take y0 a):Int)) (bulk (Zaa a y0))) 0 then True∧rI (-1) (szT left (bulk a)) else T3 (∃ y0' : Nat,(y0'≤a.length∧(a.length:Int) + (ZaN (List.take y0' a):Int)≤left)∧(a.length - y0') < (a.length - y0)∧lxs [hn Zae a] (vI (szT (left - (a.length:Int) - (ZaN (List.take y0 a):Int)) (bulk (Zaa a y0))) (left - (a.length:Int) - (ZaN (List.take y0' a):Int))∧lxs [.tp [], .tp []] (True∧vI (w64 ((y0:Int) + 1)) y0'∧lxs [ci left,hn Zae a,ci a.length,ci (w64 (left - (a.length:Int))),ci (w64 (left - (a.length:Int))), .c (.bool false)] (TN 14 (lxs [.tp []] True))))∧pt (True))))) else T2 (rI (left - (a.length:Int) - (ZaN (List.take y0 a):Int)) (szT left (bulk a)))))) (by kernel_rfl) ?_
 unfold T2 T3 T4 T8
 obtain ⟨hp0,hp1⟩:=hpre
 have hm:a.length≤maxLen:=hwf.1.1
 have H0:=Za8 left (bulk a)
 have hb:bulk a=a.length + ZaN a:=rfl
 have w0:=Zh2 (left - (List.length a:Int))
 unfold maxLen at hm
 have z0:ZaN (List.take 0 a)=0:=rfl
 have z1:ZaN (List.take a.length a)=ZaN a:=by rw [List.take_length]
 simp only [SIA,eq_self]
 refine ⟨fun h=>by omega,fun h=>⟨⟨0,⟨Nat.zero_le _,by omega⟩,?_⟩,fun k hk=>⟨fun hlt=>?_,fun hge=>?_⟩⟩⟩
 ·exact Zhk
 ·have hlt:k < a.length:=by omega
  have hk:=Zat (t:=Zae) hlt
  have s1:ZaN (List.take (k + 1) a)=ZaN (List.take k a) + bulk (Zaa a k):=ZeG hk
  have s2:ZaN (List.take (k + 1) a)≤ZaN a:=ZhH a (k + 1)
  have k1:=Zbs (k:=k) (by unfold maxLen; omega)
  have w1:=Za8 (left - (List.length a:Int) - ((ZaN (List.take k a):Nat):Int)) (bulk (Zaa a k))
  (try unfold maxLen at *)
  exact Zhi
 ·exact Zhj
def Zsm:ZaE Tryz.prog:=⟨15,[.v (.list Zae), .v Zax],fun x=>szP x.2.1,fun x=>.c (.int .i64 (szT x.2.1 (bulk x.1))),fun _=>[],fun x hx=>Zsl x.1 x.2.1 hx,Tryz.call15⟩
theorem Zxc (a:ZaT) (left:Int) (hpre:szP left):Zao Tryz.prog 4 [.ag (cellsOf Zbm a), .c (.int .i64 left)] (.c (.int .i64 (szT left (bulk a)))) []:=by
 refine bc0 [ZCZ,Zsm] [] [] [] L0 Tryz.func4 (fun hwf=>?_)
 refine Eq.mpr (β:=T5 (pt (szP left)∧T3 (bif ltI (szT left (bulk a.1)) 0 then True∧rI (-1) (szT left (bulk a)) else T3 (pt (szP (szT left (bulk a.1)))∧T3 (bif ltI (szT (szT left (bulk a.1)) (bulk a.2)) 0 then True∧rI (-1) (szT left (bulk a)) else T2 (rI (szT (szT left (bulk a.1)) (bulk a.2)) (szT left (bulk a)))))))) (by kernel_rfl) ?_
 obtain ⟨hp0,hp1⟩:=hpre
 have H0:=Za8 left (bulk a)
 have hb:bulk a=bulk a.1 + bulk a.2:=by
  have e:bulk a=bulk a.1 + (bulk a.2):=rfl
  omega
 have w0:=Za8 left (bulk a.1)
 have w1:=Za8 (szT left (bulk a.1)) (bulk a.2)
 exact Zdx
def Zxd:ZaE Tryz.prog:=⟨4,[.s Zbm, .v Zax],fun x=>szP x.2.1,fun x=>.c (.int .i64 (szT x.2.1 (bulk x.1))),fun _=>[],fun x hx=>Zxc x.1 x.2.1 hx,Tryz.call4⟩
end Go.Proofs.YtafhbjjcpncfnaaGreat
