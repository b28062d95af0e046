import Derived.Test.YtkompmgleojmlaaGreatHLawA
set_option linter.unusedSimpArgs false
set_option linter.unusedVariables false
set_option maxRecDepth 100000
set_option maxHeartbeats 4000000
namespace Go.Proofs.YtkompmgleojmlaaGreat
open Go.ChangeShapes Go.WideShapes Go.ChangeAt Go.RowKit Go.Joins Go.Deep
open GoRep (rep bulk)
def Zu3 (a:List ByteArray) (left:Int):Nat→List AV→Mem→Zbj
 | 5,tm,M=>⟨Nat,fun y=>(Zcn (ZcC tm [(1, .c (.int .i64 (left - (List.length a:Int) - ((ZaP (List.take y a):Nat):Int)))),(4, .any),(5, .c (.int .i64 ((y:Nat):Int)))]) 12 15,M),fun y=>(y≤List.length a∧(List.length a:Int) + ((ZaP (List.take y a):Nat):Int)≤left),fun y=>(List.length a - y)⟩
 | _,_,_=>⟨Unit,fun _=>([],[]),fun _=>False,fun _=>0⟩
theorem Zu4 (a:List ByteArray) (left:Int) (hpre:szP left):Zam Tryz.prog 288 [.c (.hs .no ZaW a), .c (.int .i64 left)] (.c (.int .i64 (szT left (bulk a)))) []:=by
 refine bc0 [] [] [] [] (Zu3 a left) Tryz.func288 (fun hwf=>?_)
 refine Eq.mpr (β:=T8 (bif ltI (w64 (left - (a.length:Int))) 0 then True∧rI (-1) (szT left (bulk a)) else True∧(∃ q:Nat,(q≤a.length∧(a.length:Int) + (ZaP (List.take q a):Int)≤left)∧lxs [hn ZaW a] (vI (w64 (left - (a.length:Int))) (left - (a.length:Int) - (ZaP (List.take q a):Int))∧lxs [.tp [], .tp []] (True∧vI 0 q∧lxs [ci left,hn ZaW a,ci a.length,ci (w64 (left - (a.length:Int))),ci (w64 (left - (a.length:Int))), .c (.bool false)] (TN 15 (lxs [.tp []] True))))∧pt (True))∧∀ y0:Nat,(y0≤a.length∧(a.length:Int) + (ZaP (List.take y0 a):Int)≤left)→T4 (bif ltI y0 a.length then T3 (ix 1 y0 a.length∧T6 (bif ltI (w64 ((left - (a.length:Int) - (ZaP (List.take y0 a):Int)) - (ByteArray.size (ZaF a y0):Int))) 0 then True∧rI (-1) (szT left (bulk a)) else T3 (∃ y0' : Nat,(y0'≤a.length∧(a.length:Int) + (ZaP (List.take y0' a):Int)≤left)∧(a.length - y0') < (a.length - y0)∧lxs [hn ZaW a] (vI (w64 ((left - (a.length:Int) - (ZaP (List.take y0 a):Int)) - (ByteArray.size (ZaF a y0):Int))) (left - (a.length:Int) - (ZaP (List.take y0' a):Int))∧lxs [.tp [], .tp []] (True∧vI (w64 ((y0:Int) + 1)) y0'∧lxs [ci left,hn ZaW a,ci a.length,ci (w64 (left - (a.length:Int))),ci (w64 (left - (a.length:Int))), .c (.bool false)] (TN 15 (lxs [.tp []] True))))∧pt (True)))) else T2 (rI (left - (a.length:Int) - (ZaP (List.take y0 a):Int)) (szT left (bulk a)))))) (by kernel_rfl) ?_
 unfold T2 T3 T4 T6 T8
 obtain ⟨hp0,hp1⟩:=hpre
 have hm:a.length≤maxLen:=hwf.1.1
 have H0:=Za8 left (bulk a)
 have hb:bulk a=a.length + ZaP a:=rfl
 have w0:=Zh1 (left - (List.length a:Int))
 unfold maxLen at hm
 have z0:ZaP (List.take 0 a)=0:=rfl
 have z1:ZaP (List.take a.length a)=ZaP a:=by rw [List.take_length]
 simp only [SIA,eq_self]
 refine ⟨fun h=>by omega,fun h=>⟨⟨0,⟨Nat.zero_le _,by omega⟩,?_⟩,fun k hk=>⟨fun hlt=>?_,fun hge=>?_⟩⟩⟩
 ·exact Zhg
 ·have hlt:k < a.length:=by omega
  have hk:=Zau (t:=ZaW) hlt
  have s1:ZaP (List.take (k + 1) a)=ZaP (List.take k a) + bulk (ZaF a k):=ZeG hk
  have s2:ZaP (List.take (k + 1) a)≤ZaP a:=ZhC a (k + 1)
  have k1:=ZbL (k:=k) (by unfold maxLen; omega)
  have hs:(ZaF a k).size≤maxLen:=ZLS (t:=ZaW) hwf.1.2 hlt
  have w1:=Zh1 ((left - (List.length a:Int) - ((ZaP (List.take k a):Nat):Int)) - (ByteArray.size (ZaF a k):Int))
  have hbk:bulk (ZaF a k)=(ZaF a k).size:=rfl
  (try unfold maxLen at *)
  exact Zhe
 ·exact Zhf
def Zu5:ZaC Tryz.prog:=⟨288,[.v (.list ZaW), .v Zaz],fun x=>szP x.2.1,fun x=>.c (.int .i64 (szT x.2.1 (bulk x.1))),fun _=>[],fun x hx=>Zu4 x.1 x.2.1 hx,Tryz.call288⟩
theorem ZC5 (a:ZaZ) (left:Int) (hpre:szP left):Zam Tryz.prog 259 [.ag [.int .i64 a.1, .hs .no ZaW a.2.1, .int .i64 a.2.2], .c (.int .i64 left)] (.c (.int .i64 (szT left (bulk a)))) []:=by
 refine bc0 [Zu5] [] [] [] L0 Tryz.func259 (fun hwf=>?_)
 refine Eq.mpr (β:=T5 (pt (szP left)∧T3 (bif ltI (szT left (bulk a.2.1)) 0 then True∧rI (-1) (szT left (bulk a)) else T2 (rI (szT left (bulk a.2.1)) (szT left (bulk a)))))) (by kernel_rfl) ?_
 obtain ⟨hp0,hp1⟩:=hpre
 have H0:=Za8 left (bulk a)
 have hb:bulk a=bulk a.2.1:=by
  have e:bulk a=0 + (bulk a.2.1 + (0)):=rfl
  omega
 have w1:=Za8 left (bulk a.2.1)
 exact ZdB
def ZC6:ZaC Tryz.prog:=⟨259,[.s Zak, .v Zaz],fun x=>szP x.2.1,fun x=>.c (.int .i64 (szT x.2.1 (bulk x.1))),fun _=>[],fun x hx=>ZC5 x.1 x.2.1 hx,Tryz.call259⟩
def Zxa (a:List ZaZ) (left:Int):Nat→List AV→Mem→Zbj
 | 5,tm,M=>⟨Nat,fun y=>(Zcn (ZcC tm [(1, .c (.int .i64 (left - (List.length a:Int) - ((ZaP (List.take y a):Nat):Int)))),(4, .any),(5, .c (.int .i64 ((y:Nat):Int)))]) 12 14,M),fun y=>(y≤List.length a∧(List.length a:Int) + ((ZaP (List.take y a):Nat):Int)≤left),fun y=>(List.length a - y)⟩
 | _,_,_=>⟨Unit,fun _=>([],[]),fun _=>False,fun _=>0⟩
theorem Zxb (a:List ZaZ) (left:Int) (hpre:szP left):Zam Tryz.prog 214 [.c (.hs .no Zak a), .c (.int .i64 left)] (.c (.int .i64 (szT left (bulk a)))) []:=by
 refine bc0 [ZC6] [] [] [] (Zxa a left) Tryz.func214 (fun hwf=>?_)
 refine Eq.mpr (β:=T8 (bif ltI (w64 (left - (a.length:Int))) 0 then True∧rI (-1) (szT left (bulk a)) else True∧(∃ q:Nat,(q≤a.length∧(a.length:Int) + (ZaP (List.take q a):Int)≤left)∧lxs [hn Zak a] (vI (w64 (left - (a.length:Int))) (left - (a.length:Int) - (ZaP (List.take q a):Int))∧lxs [.tp [], .tp []] (True∧vI 0 q∧lxs [ci left,hn Zak a,ci a.length,ci (w64 (left - (a.length:Int))),ci (w64 (left - (a.length:Int))), .c (.bool false)] (TN 14 (lxs [.tp []] True))))∧pt (True))∧∀ y0:Nat,(y0≤a.length∧(a.length:Int) + (ZaP (List.take y0 a):Int)≤left)→T4 (bif ltI y0 a.length then T2 (ix 3 y0 a.length∧T2 (pt (szP (left - (a.length:Int) - (ZaP (List.take y0 a):Int)))∧T3 (bif ltI (szT (left - (a.length:Int) - (ZaP (List.take y0 a):Int)) (bulk (Zaq a y0))) 0 then True∧rI (-1) (szT left (bulk a)) else T3 (∃ y0' : Nat,(y0'≤a.length∧(a.length:Int) + (ZaP (List.take y0' a):Int)≤left)∧(a.length - y0') < (a.length - y0)∧lxs [hn Zak a] (vI (szT (left - (a.length:Int) - (ZaP (List.take y0 a):Int)) (bulk (Zaq a y0))) (left - (a.length:Int) - (ZaP (List.take y0' a):Int))∧lxs [.tp [], .tp []] (True∧vI (w64 ((y0:Int) + 1)) y0'∧lxs [ci left,hn Zak a,ci a.length,ci (w64 (left - (a.length:Int))),ci (w64 (left - (a.length:Int))), .c (.bool false)] (TN 14 (lxs [.tp []] True))))∧pt (True))))) else T2 (rI (left - (a.length:Int) - (ZaP (List.take y0 a):Int)) (szT left (bulk a)))))) (by kernel_rfl) ?_
 unfold T2 T3 T4 T8
 obtain ⟨hp0,hp1⟩:=hpre
 have hm:a.length≤maxLen:=hwf.1.1
 have H0:=Za8 left (bulk a)
 have hb:bulk a=a.length + ZaP a:=rfl
 have w0:=Zh1 (left - (List.length a:Int))
 unfold maxLen at hm
 have z0:ZaP (List.take 0 a)=0:=rfl
 have z1:ZaP (List.take a.length a)=ZaP a:=by rw [List.take_length]
 simp only [SIA,eq_self]
 refine ⟨fun h=>by omega,fun h=>⟨⟨0,⟨Nat.zero_le _,by omega⟩,?_⟩,fun k hk=>⟨fun hlt=>?_,fun hge=>?_⟩⟩⟩
 ·exact Zhg
 ·have hlt:k < a.length:=by omega
  have hk:=Zau (t:=Zak) hlt
  have s1:ZaP (List.take (k + 1) a)=ZaP (List.take k a) + bulk (Zaq a k):=ZeG hk
  have s2:ZaP (List.take (k + 1) a)≤ZaP a:=ZhC a (k + 1)
  have k1:=ZbL (k:=k) (by unfold maxLen; omega)
  have w1:=Za8 (left - (List.length a:Int) - ((ZaP (List.take k a):Nat):Int)) (bulk (Zaq a k))
  (try unfold maxLen at *)
  exact Zhe
 ·exact Zhf
def Zxc:ZaC Tryz.prog:=⟨214,[.v (.list Zak), .v Zaz],fun x=>szP x.2.1,fun x=>.c (.int .i64 (szT x.2.1 (bulk x.1))),fun _=>[],fun x hx=>Zxb x.1 x.2.1 hx,Tryz.call214⟩
theorem Zxd (a:Zb3) (left:Int) (hpre:szP left):Zam Tryz.prog 143 [.ag [.bool a.1, .hs .no Zak a.2], .c (.int .i64 left)] (.c (.int .i64 (szT left (bulk a)))) []:=by
 refine bc0 [Zxc] [] [] [] L0 Tryz.func143 (fun hwf=>?_)
 refine Eq.mpr (β:=T5 (pt (szP left)∧T3 (bif ltI (szT left (bulk a.2)) 0 then True∧rI (-1) (szT left (bulk a)) else T2 (rI (szT left (bulk a.2)) (szT left (bulk a)))))) (by kernel_rfl) ?_
 obtain ⟨hp0,hp1⟩:=hpre
 have H0:=Za8 left (bulk a)
 have hb:bulk a=bulk a.2:=by
  have e:bulk a=0 + (bulk a.2):=rfl
  omega
 have w1:=Za8 left (bulk a.2)
 exact ZdB
def Zxe:ZaC Tryz.prog:=⟨143,[.s Zdd, .v Zaz],fun x=>szP x.2.1,fun x=>.c (.int .i64 (szT x.2.1 (bulk x.1))),fun _=>[],fun x hx=>Zxd x.1 x.2.1 hx,Tryz.call143⟩
theorem ZIq (a:Zds) (left:Int) (hpre:szP left):Zam Tryz.prog 258 [.ag [.int .i64 a.1, .int .i64 a.2.1, .str a.2.2], .c (.int .i64 left)] (.c (.int .i64 (szT left (bulk a)))) []:=by
 refine bc0 [] [] [] [] L0 Tryz.func258 (fun hwf=>?_)
 refine Eq.mpr (β:=T10 (bif ltI (w64 (left - (a.2.2.size:Int))) 0 then True∧rI (-1) (szT left (bulk a)) else T2 (rI (w64 (left - (a.2.2.size:Int))) (szT left (bulk a))))) (by kernel_rfl) ?_
 obtain ⟨hp0,hp1⟩:=hpre
 have H0:=Za8 left (bulk a)
 have hb:bulk a=ByteArray.size a.2.2:=by
  have e:bulk a=0 + (0 + (ByteArray.size a.2.2)):=rfl
  omega
 have m2:ByteArray.size a.2.2≤maxLen:=hwf.1.2.2.1
 have w2:=Zh1 (left - (ByteArray.size a.2.2:Int))
 exact ZdB
def ZIr:ZaC Tryz.prog:=⟨258,[.s ZaU, .v Zaz],fun x=>szP x.2.1,fun x=>.c (.int .i64 (szT x.2.1 (bulk x.1))),fun _=>[],fun x hx=>ZIq x.1 x.2.1 hx,Tryz.call258⟩
def ZGb (a:List Zds) (left:Int):Nat→List AV→Mem→Zbj
 | 5,tm,M=>⟨Nat,fun y=>(Zcn (ZcC tm [(1, .c (.int .i64 (left - (List.length a:Int) - ((ZaP (List.take y a):Nat):Int)))),(4, .any),(5, .c (.int .i64 ((y:Nat):Int)))]) 12 14,M),fun y=>(y≤List.length a∧(List.length a:Int) + ((ZaP (List.take y a):Nat):Int)≤left),fun y=>(List.length a - y)⟩
 | _,_,_=>⟨Unit,fun _=>([],[]),fun _=>False,fun _=>0⟩
theorem ZGc (a:List Zds) (left:Int) (hpre:szP left):Zam Tryz.prog 212 [.c (.hs .no ZaU a), .c (.int .i64 left)] (.c (.int .i64 (szT left (bulk a)))) []:=by
 refine bc0 [ZIr] [] [] [] (ZGb a left) Tryz.func212 (fun hwf=>?_)
 refine Eq.mpr (β:=T8 (bif ltI (w64 (left - (a.length:Int))) 0 then True∧rI (-1) (szT left (bulk a)) else True∧(∃ q:Nat,(q≤a.length∧(a.length:Int) + (ZaP (List.take q a):Int)≤left)∧lxs [hn ZaU a] (vI (w64 (left - (a.length:Int))) (left - (a.length:Int) - (ZaP (List.take q a):Int))∧lxs [.tp [], .tp []] (True∧vI 0 q∧lxs [ci left,hn ZaU a,ci a.length,ci (w64 (left - (a.length:Int))),ci (w64 (left - (a.length:Int))), .c (.bool false)] (TN 14 (lxs [.tp []] True))))∧pt (True))∧∀ y0:Nat,(y0≤a.length∧(a.length:Int) + (ZaP (List.take y0 a):Int)≤left)→T4 (bif ltI y0 a.length then T2 (ix 3 y0 a.length∧T2 (pt (szP (left - (a.length:Int) - (ZaP (List.take y0 a):Int)))∧T3 (bif ltI (szT (left - (a.length:Int) - (ZaP (List.take y0 a):Int)) (bulk (ZaG a y0))) 0 then True∧rI (-1) (szT left (bulk a)) else T3 (∃ y0' : Nat,(y0'≤a.length∧(a.length:Int) + (ZaP (List.take y0' a):Int)≤left)∧(a.length - y0') < (a.length - y0)∧lxs [hn ZaU a] (vI (szT (left - (a.length:Int) - (ZaP (List.take y0 a):Int)) (bulk (ZaG a y0))) (left - (a.length:Int) - (ZaP (List.take y0' a):Int))∧lxs [.tp [], .tp []] (True∧vI (w64 ((y0:Int) + 1)) y0'∧lxs [ci left,hn ZaU a,ci a.length,ci (w64 (left - (a.length:Int))),ci (w64 (left - (a.length:Int))), .c (.bool false)] (TN 14 (lxs [.tp []] True))))∧pt (True))))) else T2 (rI (left - (a.length:Int) - (ZaP (List.take y0 a):Int)) (szT left (bulk a)))))) (by kernel_rfl) ?_
 unfold T2 T3 T4 T8
 obtain ⟨hp0,hp1⟩:=hpre
 have hm:a.length≤maxLen:=hwf.1.1
 have H0:=Za8 left (bulk a)
 have hb:bulk a=a.length + ZaP a:=rfl
 have w0:=Zh1 (left - (List.length a:Int))
 unfold maxLen at hm
 have z0:ZaP (List.take 0 a)=0:=rfl
 have z1:ZaP (List.take a.length a)=ZaP a:=by rw [List.take_length]
 simp only [SIA,eq_self]
 refine ⟨fun h=>by omega,fun h=>⟨⟨0,⟨Nat.zero_le _,by omega⟩,?_⟩,fun k hk=>⟨fun hlt=>?_,fun hge=>?_⟩⟩⟩
 ·exact Zhg
 ·have hlt:k < a.length:=by omega
  have hk:=Zau (t:=ZaU) hlt
  have s1:ZaP (List.take (k + 1) a)=ZaP (List.take k a) + bulk (ZaG a k):=ZeG hk
  have s2:ZaP (List.take (k + 1) a)≤ZaP a:=ZhC a (k + 1)
  have k1:=ZbL (k:=k) (by unfold maxLen; omega)
  have w1:=Za8 (left - (List.length a:Int) - ((ZaP (List.take k a):Nat):Int)) (bulk (ZaG a k))
  (try unfold maxLen at *)
  exact Zhe
 ·exact Zhf
def ZGd:ZaC Tryz.prog:=⟨212,[.v (.list ZaU), .v Zaz],fun x=>szP x.2.1,fun x=>.c (.int .i64 (szT x.2.1 (bulk x.1))),fun _=>[],fun x hx=>ZGc x.1 x.2.1 hx,Tryz.call212⟩
theorem ZIs (a:ZaM) (left:Int) (hpre:szP left):Zam Tryz.prog 140 [.ag (cellsOf Zaj a), .c (.int .i64 left)] (.c (.int .i64 (szT left (bulk a)))) []:=by
 refine bc0 [ZGd] [] [] [] L0 Tryz.func140 (fun hwf=>?_)
 refine Eq.mpr (β:=T10 (bif ltI (w64 (left - (a.1.size:Int))) 0 then True∧rI (-1) (szT left (bulk a)) else T3 (pt (szP (w64 (left - (a.1.size:Int))))∧T3 (bif ltI (szT (w64 (left - (a.1.size:Int))) (bulk a.2.2.2)) 0 then True∧rI (-1) (szT left (bulk a)) else T2 (rI (szT (w64 (left - (a.1.size:Int))) (bulk a.2.2.2)) (szT left (bulk a))))))) (by kernel_rfl) ?_
 obtain ⟨hp0,hp1⟩:=hpre
 have H0:=Za8 left (bulk a)
 have hb:bulk a=ByteArray.size a.1 + bulk a.2.2.2:=by
  have e:bulk a=ByteArray.size a.1 + (0 + (0 + (bulk a.2.2.2))):=rfl
  omega
 have m0:ByteArray.size a.1≤maxLen:=hwf.1.1
 have w0:=Zh1 (left - (ByteArray.size a.1:Int))
 have w3:=Za8 (IntKind.wrap .i64 (left - (ByteArray.size a.1:Int))) (bulk a.2.2.2)
 exact ZdB
def ZIt:ZaC Tryz.prog:=⟨140,[.s Zaj, .v Zaz],fun x=>szP x.2.1,fun x=>.c (.int .i64 (szT x.2.1 (bulk x.1))),fun _=>[],fun x hx=>ZIs x.1 x.2.1 hx,Tryz.call140⟩
def ZGe (a:List ZaM) (left:Int):Nat→List AV→Mem→Zbj
 | 5,tm,M=>⟨Nat,fun y=>(Zcn (ZcC tm [(1, .c (.int .i64 (left - (List.length a:Int) - ((ZaP (List.take y a):Nat):Int)))),(4, .any),(5, .c (.int .i64 ((y:Nat):Int)))]) 12 14,M),fun y=>(y≤List.length a∧(List.length a:Int) + ((ZaP (List.take y a):Nat):Int)≤left),fun y=>(List.length a - y)⟩
 | _,_,_=>⟨Unit,fun _=>([],[]),fun _=>False,fun _=>0⟩
theorem ZGf (a:List ZaM) (left:Int) (hpre:szP left):Zam Tryz.prog 64 [.c (.hs .no Zaj a), .c (.int .i64 left)] (.c (.int .i64 (szT left (bulk a)))) []:=by
 refine bc0 [ZIt] [] [] [] (ZGe a left) Tryz.func64 (fun hwf=>?_)
 refine Eq.mpr (β:=T8 (bif ltI (w64 (left - (a.length:Int))) 0 then True∧rI (-1) (szT left (bulk a)) else True∧(∃ q:Nat,(q≤a.length∧(a.length:Int) + (ZaP (List.take q a):Int)≤left)∧lxs [hn Zaj a] (vI (w64 (left - (a.length:Int))) (left - (a.length:Int) - (ZaP (List.take q a):Int))∧lxs [.tp [], .tp []] (True∧vI 0 q∧lxs [ci left,hn Zaj a,ci a.length,ci (w64 (left - (a.length:Int))),ci (w64 (left - (a.length:Int))), .c (.bool false)] (TN 14 (lxs [.tp []] True))))∧pt (True))∧∀ y0:Nat,(y0≤a.length∧(a.length:Int) + (ZaP (List.take y0 a):Int)≤left)→T4 (bif ltI y0 a.length then T2 (ix 4 y0 a.length∧T2 (pt (szP (left - (a.length:Int) - (ZaP (List.take y0 a):Int)))∧T3 (bif ltI (szT (left - (a.length:Int) - (ZaP (List.take y0 a):Int)) (bulk (Zab a y0))) 0 then True∧rI (-1) (szT left (bulk a)) else T3 (∃ y0' : Nat,(y0'≤a.length∧(a.length:Int) + (ZaP (List.take y0' a):Int)≤left)∧(a.length - y0') < (a.length - y0)∧lxs [hn Zaj a] (vI (szT (left - (a.length:Int) - (ZaP (List.take y0 a):Int)) (bulk (Zab a y0))) (left - (a.length:Int) - (ZaP (List.take y0' a):Int))∧lxs [.tp [], .tp []] (True∧vI (w64 ((y0:Int) + 1)) y0'∧lxs [ci left,hn Zaj a,ci a.length,ci (w64 (left - (a.length:Int))),ci (w64 (left - (a.length:Int))), .c (.bool false)] (TN 14 (lxs [.tp []] True))))∧pt (True))))) else T2 (rI (left - (a.length:Int) - (ZaP (List.take y0 a):Int)) (szT left (bulk a)))))) (by kernel_rfl) ?_
 unfold T2 T3 T4 T8
 obtain ⟨hp0,hp1⟩:=hpre
 have hm:a.length≤maxLen:=hwf.1.1
 have H0:=Za8 left (bulk a)
 have hb:bulk a=a.length + ZaP a:=rfl
 have w0:=Zh1 (left - (List.length a:Int))
 unfold maxLen at hm
 have z0:ZaP (List.take 0 a)=0:=rfl
 have z1:ZaP (List.take a.length a)=ZaP a:=by rw [List.take_length]
 simp only [SIA,eq_self]
 refine ⟨fun h=>by omega,fun h=>⟨⟨0,⟨Nat.zero_le _,by omega⟩,?_⟩,fun k hk=>⟨fun hlt=>?_,fun hge=>?_⟩⟩⟩
 ·exact Zhg
 ·have hlt:k < a.length:=by omega
  have hk:=Zau (t:=Zaj) hlt
  have s1:ZaP (List.take (k + 1) a)=ZaP (List.take k a) + bulk (Zab a k):=ZeG hk
  have s2:ZaP (List.take (k + 1) a)≤ZaP a:=ZhC a (k + 1)
  have k1:=ZbL (k:=k) (by unfold maxLen; omega)
  have w1:=Za8 (left - (List.length a:Int) - ((ZaP (List.take k a):Nat):Int)) (bulk (Zab a k))
  (try unfold maxLen at *)
  exact Zhe
 ·exact Zhf
def ZGg:ZaC Tryz.prog:=⟨64,[.v (.list Zaj), .v Zaz],fun x=>szP x.2.1,fun x=>.c (.int .i64 (szT x.2.1 (bulk x.1))),fun _=>[],fun x hx=>ZGf x.1 x.2.1 hx,Tryz.call64⟩
theorem Zxf (a:Zax) (left:Int) (hpre:szP left):Zam Tryz.prog 141 [.ag (cellsOf Zag a), .c (.int .i64 left)] (.c (.int .i64 (szT left (bulk a)))) []:=by
 refine bc0 [] [] [] [] L0 Tryz.func141 (fun hwf=>?_)
 refine Eq.mpr (β:=T10 (bif ltI (w64 (left - (a.2.2.2.2.1.size:Int))) 0 then True∧rI (-1) (szT left (bulk a)) else T8 (bif ltI (w64 ((w64 (left - (a.2.2.2.2.1.size:Int))) - (a.2.2.2.2.2.size:Int))) 0 then True∧rI (-1) (szT left (bulk a)) else T2 (rI (w64 ((w64 (left - (a.2.2.2.2.1.size:Int))) - (a.2.2.2.2.2.size:Int))) (szT left (bulk a)))))) (by kernel_rfl) ?_
 obtain ⟨hp0,hp1⟩:=hpre
 have H0:=Za8 left (bulk a)
 have hb:bulk a=ByteArray.size a.2.2.2.2.1 + ByteArray.size a.2.2.2.2.2:=by
  have e:bulk a=0 + (0 + (0 + (0 + (ByteArray.size a.2.2.2.2.1 + (ByteArray.size a.2.2.2.2.2))))):=rfl
  omega
 have m4:ByteArray.size a.2.2.2.2.1≤maxLen:=hwf.1.2.2.2.2.1
 have m5:ByteArray.size a.2.2.2.2.2≤maxLen:=hwf.1.2.2.2.2.2.1
 have w4:=Zh1 (left - (ByteArray.size a.2.2.2.2.1:Int))
 have w5:=Zh1 ((IntKind.wrap .i64 (left - (ByteArray.size a.2.2.2.2.1:Int))) - (ByteArray.size a.2.2.2.2.2:Int))
 exact ZdB
def Zxg:ZaC Tryz.prog:=⟨141,[.s Zag, .v Zaz],fun x=>szP x.2.1,fun x=>.c (.int .i64 (szT x.2.1 (bulk x.1))),fun _=>[],fun x hx=>Zxf x.1 x.2.1 hx,Tryz.call141⟩
def Zu6 (a:List Zax) (left:Int):Nat→List AV→Mem→Zbj
 | 5,tm,M=>⟨Nat,fun y=>(Zcn (ZcC tm [(1, .c (.int .i64 (left - (List.length a:Int) - ((ZaP (List.take y a):Nat):Int)))),(4, .any),(5, .c (.int .i64 ((y:Nat):Int)))]) 12 14,M),fun y=>(y≤List.length a∧(List.length a:Int) + ((ZaP (List.take y a):Nat):Int)≤left),fun y=>(List.length a - y)⟩
 | _,_,_=>⟨Unit,fun _=>([],[]),fun _=>False,fun _=>0⟩
theorem Zu7 (a:List Zax) (left:Int) (hpre:szP left):Zam Tryz.prog 65 [.c (.hs .no Zag a), .c (.int .i64 left)] (.c (.int .i64 (szT left (bulk a)))) []:=by
 refine bc0 [Zxg] [] [] [] (Zu6 a left) Tryz.func65 (fun hwf=>?_)
 refine Eq.mpr (β:=T8 (bif ltI (w64 (left - (a.length:Int))) 0 then True∧rI (-1) (szT left (bulk a)) else True∧(∃ q:Nat,(q≤a.length∧(a.length:Int) + (ZaP (List.take q a):Int)≤left)∧lxs [hn Zag a] (vI (w64 (left - (a.length:Int))) (left - (a.length:Int) - (ZaP (List.take q a):Int))∧lxs [.tp [], .tp []] (True∧vI 0 q∧lxs [ci left,hn Zag a,ci a.length,ci (w64 (left - (a.length:Int))),ci (w64 (left - (a.length:Int))), .c (.bool false)] (TN 14 (lxs [.tp []] True))))∧pt (True))∧∀ y0:Nat,(y0≤a.length∧(a.length:Int) + (ZaP (List.take y0 a):Int)≤left)→T4 (bif ltI y0 a.length then T2 (ix 6 y0 a.length∧T2 (pt (szP (left - (a.length:Int) - (ZaP (List.take y0 a):Int)))∧T3 (bif ltI (szT (left - (a.length:Int) - (ZaP (List.take y0 a):Int)) (bulk (Zac a y0))) 0 then True∧rI (-1) (szT left (bulk a)) else T3 (∃ y0' : Nat,(y0'≤a.length∧(a.length:Int) + (ZaP (List.take y0' a):Int)≤left)∧(a.length - y0') < (a.length - y0)∧lxs [hn Zag a] (vI (szT (left - (a.length:Int) - (ZaP (List.take y0 a):Int)) (bulk (Zac a y0))) (left - (a.length:Int) - (ZaP (List.take y0' a):Int))∧lxs [.tp [], .tp []] (True∧vI (w64 ((y0:Int) + 1)) y0'∧lxs [ci left,hn Zag a,ci a.length,ci (w64 (left - (a.length:Int))),ci (w64 (left - (a.length:Int))), .c (.bool false)] (TN 14 (lxs [.tp []] True))))∧pt (True))))) else T2 (rI (left - (a.length:Int) - (ZaP (List.take y0 a):Int)) (szT left (bulk a)))))) (by kernel_rfl) ?_
 unfold T2 T3 T4 T8
 obtain ⟨hp0,hp1⟩:=hpre
 have hm:a.length≤maxLen:=hwf.1.1
 have H0:=Za8 left (bulk a)
 have hb:bulk a=a.length + ZaP a:=rfl
 have w0:=Zh1 (left - (List.length a:Int))
 unfold maxLen at hm
 have z0:ZaP (List.take 0 a)=0:=rfl
 have z1:ZaP (List.take a.length a)=ZaP a:=by rw [List.take_length]
 simp only [SIA,eq_self]
 refine ⟨fun h=>by omega,fun h=>⟨⟨0,⟨Nat.zero_le _,by omega⟩,?_⟩,fun k hk=>⟨fun hlt=>?_,fun hge=>?_⟩⟩⟩
 ·exact Zhg
 ·have hlt:k < a.length:=by omega
  have hk:=Zau (t:=Zag) hlt
  have s1:ZaP (List.take (k + 1) a)=ZaP (List.take k a) + bulk (Zac a k):=ZeG hk
  have s2:ZaP (List.take (k + 1) a)≤ZaP a:=ZhC a (k + 1)
  have k1:=ZbL (k:=k) (by unfold maxLen; omega)
  have w1:=Za8 (left - (List.length a:Int) - ((ZaP (List.take k a):Nat):Int)) (bulk (Zac a k))
  (try unfold maxLen at *)
  exact Zhe
 ·exact Zhf
def Zu8:ZaC Tryz.prog:=⟨65,[.v (.list Zag), .v Zaz],fun x=>szP x.2.1,fun x=>.c (.int .i64 (szT x.2.1 (bulk x.1))),fun _=>[],fun x hx=>Zu7 x.1 x.2.1 hx,Tryz.call65⟩
theorem ZC7 (a:ZaI) (left:Int) (hpre:szP left):Zam Tryz.prog 29 [.ag (cellsOf ZbJ a), .c (.int .i64 left)] (.c (.int .i64 (szT left (bulk a)))) []:=by
 refine bc0 [ZGg,Zu8] [] [] [] L0 Tryz.func29 (fun hwf=>?_)
 refine Eq.mpr (β:=T5 (pt (szP left)∧T3 (bif ltI (szT left (bulk a.1)) 0 then True∧rI (-1) (szT left (bulk a)) else T3 (pt (szP (szT left (bulk a.1)))∧T3 (bif ltI (szT (szT left (bulk a.1)) (bulk a.2.1)) 0 then True∧rI (-1) (szT left (bulk a)) else T2 (rI (szT (szT left (bulk a.1)) (bulk a.2.1)) (szT left (bulk a)))))))) (by kernel_rfl) ?_
 obtain ⟨hp0,hp1⟩:=hpre
 have H0:=Za8 left (bulk a)
 have hb:bulk a=bulk a.1 + bulk a.2.1:=by
  have e:bulk a=bulk a.1 + (bulk a.2.1 + (0)):=rfl
  omega
 have w0:=Za8 left (bulk a.1)
 have w1:=Za8 (szT left (bulk a.1)) (bulk a.2.1)
 exact ZdB
def ZC8:ZaC Tryz.prog:=⟨29,[.s ZbJ, .v Zaz],fun x=>szP x.2.1,fun x=>.c (.int .i64 (szT x.2.1 (bulk x.1))),fun _=>[],fun x hx=>ZC7 x.1 x.2.1 hx,Tryz.call29⟩
theorem ZC9 (a:List ZbX) (left:Int) (hpre:szP left):Zam Tryz.prog 213 [.c (.hs .no Zay a), .c (.int .i64 left)] (.c (.int .i64 (szT left (bulk a)))) []:=by
 refine bc0 [] [] [] [] L0 Tryz.func213 (fun hwf=>?_)
 refine Eq.mpr (β:=T8 (bif ltI (w64 (left - (a.length:Int))) 0 then True∧rI (-1) (szT left (bulk a)) else T2 (rI (w64 (left - (a.length:Int))) (szT left (bulk a))))) (by kernel_rfl) ?_
 obtain ⟨hp0,hp1⟩:=hpre
 have hm:a.length≤maxLen:=hwf.1.1
 have H0:=Za8 left (bulk a)
 have hb:bulk a=a.length + ZaP a:=rfl
 have w0:=Zh1 (left - (List.length a:Int))
 unfold maxLen at hm
 have z1:ZaP a=0:=ZtD (fun _=>rfl) a
 exact ZcO
def ZDa:ZaC Tryz.prog:=⟨213,[.v (.list Zay), .v Zaz],fun x=>szP x.2.1,fun x=>.c (.int .i64 (szT x.2.1 (bulk x.1))),fun _=>[],fun x hx=>ZC9 x.1 x.2.1 hx,Tryz.call213⟩
theorem ZGh (a:List ZbX) (left:Int) (hpre:szP left):Zam Tryz.prog 142 [.ag [.hs .no Zay a], .c (.int .i64 left)] (.c (.int .i64 (szT left (bulk a)))) []:=by
 refine bc0 [ZDa] [] [] [] L0 Tryz.func142 (fun hwf=>?_)
 refine Eq.mpr (β:=T5 (pt (szP left)∧T3 (bif ltI (szT left (bulk a)) 0 then True∧rI (-1) (szT left (bulk a)) else T2 (rI (szT left (bulk a)) (szT left (bulk a)))))) (by kernel_rfl) ?_
 obtain ⟨hp0,hp1⟩:=hpre
 have H0:=Za8 left (bulk a)
 have hb:bulk a=bulk a:=by
  have e:bulk a=bulk a:=rfl
  omega
 have w0:=Za8 left (bulk a)
 exact ZdB
def ZGi:ZaC Tryz.prog:=⟨142,[.s (.list Zay), .v Zaz],fun x=>szP x.2.1,fun x=>.c (.int .i64 (szT x.2.1 (bulk x.1))),fun _=>[],fun x hx=>ZGh x.1 x.2.1 hx,Tryz.call142⟩
theorem ZGj (a:ZaO) (left:Int) (hpre:szP left):Zam Tryz.prog 260 [.ag (cellsOf Zal a), .c (.int .i64 left)] (.c (.int .i64 (szT left (bulk a)))) []:=by
 refine bc0 [] [] [] [] L0 Tryz.func260 (fun hwf=>?_)
 refine Eq.mpr (β:=T10 (bif ltI (w64 (left - (a.2.2.2.size:Int))) 0 then True∧rI (-1) (szT left (bulk a)) else T2 (rI (w64 (left - (a.2.2.2.size:Int))) (szT left (bulk a))))) (by kernel_rfl) ?_
 obtain ⟨hp0,hp1⟩:=hpre
 have H0:=Za8 left (bulk a)
 have hb:bulk a=ByteArray.size a.2.2.2:=by
  have e:bulk a=0 + (0 + (0 + (ByteArray.size a.2.2.2))):=rfl
  omega
 have m3:ByteArray.size a.2.2.2≤maxLen:=hwf.1.2.2.2.1
 have w3:=Zh1 (left - (ByteArray.size a.2.2.2:Int))
 exact ZdB
def ZGk:ZaC Tryz.prog:=⟨260,[.s Zal, .v Zaz],fun x=>szP x.2.1,fun x=>.c (.int .i64 (szT x.2.1 (bulk x.1))),fun _=>[],fun x hx=>ZGj x.1 x.2.1 hx,Tryz.call260⟩
def ZDb (a:List ZaO) (left:Int):Nat→List AV→Mem→Zbj
 | 5,tm,M=>⟨Nat,fun y=>(Zcn (ZcC tm [(1, .c (.int .i64 (left - (List.length a:Int) - ((ZaP (List.take y a):Nat):Int)))),(4, .any),(5, .c (.int .i64 ((y:Nat):Int)))]) 12 14,M),fun y=>(y≤List.length a∧(List.length a:Int) + ((ZaP (List.take y a):Nat):Int)≤left),fun y=>(List.length a - y)⟩
 | _,_,_=>⟨Unit,fun _=>([],[]),fun _=>False,fun _=>0⟩
theorem ZDc (a:List ZaO) (left:Int) (hpre:szP left):Zam Tryz.prog 215 [.c (.hs .no Zal a), .c (.int .i64 left)] (.c (.int .i64 (szT left (bulk a)))) []:=by
 refine bc0 [ZGk] [] [] [] (ZDb a left) Tryz.func215 (fun hwf=>?_)
 refine Eq.mpr (β:=T8 (bif ltI (w64 (left - (a.length:Int))) 0 then True∧rI (-1) (szT left (bulk a)) else True∧(∃ q:Nat,(q≤a.length∧(a.length:Int) + (ZaP (List.take q a):Int)≤left)∧lxs [hn Zal a] (vI (w64 (left - (a.length:Int))) (left - (a.length:Int) - (ZaP (List.take q a):Int))∧lxs [.tp [], .tp []] (True∧vI 0 q∧lxs [ci left,hn Zal a,ci a.length,ci (w64 (left - (a.length:Int))),ci (w64 (left - (a.length:Int))), .c (.bool false)] (TN 14 (lxs [.tp []] True))))∧pt (True))∧∀ y0:Nat,(y0≤a.length∧(a.length:Int) + (ZaP (List.take y0 a):Int)≤left)→T4 (bif ltI y0 a.length then T2 (ix 4 y0 a.length∧T2 (pt (szP (left - (a.length:Int) - (ZaP (List.take y0 a):Int)))∧T3 (bif ltI (szT (left - (a.length:Int) - (ZaP (List.take y0 a):Int)) (bulk (Zaf a y0))) 0 then True∧rI (-1) (szT left (bulk a)) else T3 (∃ y0' : Nat,(y0'≤a.length∧(a.length:Int) + (ZaP (List.take y0' a):Int)≤left)∧(a.length - y0') < (a.length - y0)∧lxs [hn Zal a] (vI (szT (left - (a.length:Int) - (ZaP (List.take y0 a):Int)) (bulk (Zaf a y0))) (left - (a.length:Int) - (ZaP (List.take y0' a):Int))∧lxs [.tp [], .tp []] (True∧vI (w64 ((y0:Int) + 1)) y0'∧lxs [ci left,hn Zal a,ci a.length,ci (w64 (left - (a.length:Int))),ci (w64 (left - (a.length:Int))), .c (.bool false)] (TN 14 (lxs [.tp []] True))))∧pt (True))))) else T2 (rI (left - (a.length:Int) - (ZaP (List.take y0 a):Int)) (szT left (bulk a)))))) (by kernel_rfl) ?_
 unfold T2 T3 T4 T8
 obtain ⟨hp0,hp1⟩:=hpre
 have hm:a.length≤maxLen:=hwf.1.1
 have H0:=Za8 left (bulk a)
 have hb:bulk a=a.length + ZaP a:=rfl
 have w0:=Zh1 (left - (List.length a:Int))
 unfold maxLen at hm
 have z0:ZaP (List.take 0 a)=0:=rfl
 have z1:ZaP (List.take a.length a)=ZaP a:=by rw [List.take_length]
 simp only [SIA,eq_self]
 refine ⟨fun h=>by omega,fun h=>⟨⟨0,⟨Nat.zero_le _,by omega⟩,?_⟩,fun k hk=>⟨fun hlt=>?_,fun hge=>?_⟩⟩⟩
 ·exact Zhg
 ·have hlt:k < a.length:=by omega
  have hk:=Zau (t:=Zal) hlt
  have s1:ZaP (List.take (k + 1) a)=ZaP (List.take k a) + bulk (Zaf a k):=ZeG hk
  have s2:ZaP (List.take (k + 1) a)≤ZaP a:=ZhC a (k + 1)
  have k1:=ZbL (k:=k) (by unfold maxLen; omega)
  have w1:=Za8 (left - (List.length a:Int) - ((ZaP (List.take k a):Nat):Int)) (bulk (Zaf a k))
  (try unfold maxLen at *)
  exact Zhe
 ·exact Zhf
def ZDd:ZaC Tryz.prog:=⟨215,[.v (.list Zal), .v Zaz],fun x=>szP x.2.1,fun x=>.c (.int .i64 (szT x.2.1 (bulk x.1))),fun _=>[],fun x hx=>ZDc x.1 x.2.1 hx,Tryz.call215⟩
theorem ZDe (a:ZbH) (left:Int) (hpre:szP left):Zam Tryz.prog 144 [.ag [.hs .no Zal a.1, .bool a.2.1, .bool a.2.2], .c (.int .i64 left)] (.c (.int .i64 (szT left (bulk a)))) []:=by
 refine bc0 [ZDd] [] [] [] L0 Tryz.func144 (fun hwf=>?_)
 refine Eq.mpr (β:=T5 (pt (szP left)∧T3 (bif ltI (szT left (bulk a.1)) 0 then True∧rI (-1) (szT left (bulk a)) else T2 (rI (szT left (bulk a.1)) (szT left (bulk a)))))) (by kernel_rfl) ?_
 obtain ⟨hp0,hp1⟩:=hpre
 have H0:=Za8 left (bulk a)
 have hb:bulk a=bulk a.1:=by
  have e:bulk a=bulk a.1 + (0 + (0)):=rfl
  omega
 have w0:=Za8 left (bulk a.1)
 exact ZdB
def ZDf:ZaC Tryz.prog:=⟨144,[.s Zdz, .v Zaz],fun x=>szP x.2.1,fun x=>.c (.int .i64 (szT x.2.1 (bulk x.1))),fun _=>[],fun x hx=>ZDe x.1 x.2.1 hx,Tryz.call144⟩
theorem ZIu (a:Zl0) (left:Int) (hpre:szP left):Zam Tryz.prog 146 [.ag [.str a.1, .str a.2], .c (.int .i64 left)] (.c (.int .i64 (szT left (bulk a)))) []:=by
 refine bc0 [] [] [] [] L0 Tryz.func146 (fun hwf=>?_)
 refine Eq.mpr (β:=T10 (bif ltI (w64 (left - (a.1.size:Int))) 0 then True∧rI (-1) (szT left (bulk a)) else T8 (bif ltI (w64 ((w64 (left - (a.1.size:Int))) - (a.2.size:Int))) 0 then True∧rI (-1) (szT left (bulk a)) else T2 (rI (w64 ((w64 (left - (a.1.size:Int))) - (a.2.size:Int))) (szT left (bulk a)))))) (by kernel_rfl) ?_
 obtain ⟨hp0,hp1⟩:=hpre
 have H0:=Za8 left (bulk a)
 have hb:bulk a=ByteArray.size a.1 + ByteArray.size a.2:=by
  have e:bulk a=ByteArray.size a.1 + (ByteArray.size a.2):=rfl
  omega
 have m0:ByteArray.size a.1≤maxLen:=hwf.1.1
 have m1:ByteArray.size a.2≤maxLen:=hwf.1.2.1
 have w0:=Zh1 (left - (ByteArray.size a.1:Int))
 have w1:=Zh1 ((IntKind.wrap .i64 (left - (ByteArray.size a.1:Int))) - (ByteArray.size a.2:Int))
 exact ZdB
def ZIv:ZaC Tryz.prog:=⟨146,[.s ZkP, .v Zaz],fun x=>szP x.2.1,fun x=>.c (.int .i64 (szT x.2.1 (bulk x.1))),fun _=>[],fun x hx=>ZIu x.1 x.2.1 hx,Tryz.call146⟩
theorem ZKG (a:GIn) (left:Int) (hpre:szP left):Zam Tryz.prog 145 [.ag [.str a.1, .bool a.2], .c (.int .i64 left)] (.c (.int .i64 (szT left (bulk a)))) []:=by
 refine bc0 [] [] [] [] L0 Tryz.func145 (fun hwf=>?_)
 refine Eq.mpr (β:=T10 (bif ltI (w64 (left - (a.1.size:Int))) 0 then True∧rI (-1) (szT left (bulk a)) else T2 (rI (w64 (left - (a.1.size:Int))) (szT left (bulk a))))) (by kernel_rfl) ?_
 obtain ⟨hp0,hp1⟩:=hpre
 have H0:=Za8 left (bulk a)
 have hb:bulk a=ByteArray.size a.1:=by
  have e:bulk a=ByteArray.size a.1 + (0):=rfl
  omega
 have m0:ByteArray.size a.1≤maxLen:=hwf.1.1
 have w0:=Zh1 (left - (ByteArray.size a.1:Int))
 exact ZdB
def ZKH:ZaC Tryz.prog:=⟨145,[.s ZAY, .v Zaz],fun x=>szP x.2.1,fun x=>.c (.int .i64 (szT x.2.1 (bulk x.1))),fun _=>[],fun x hx=>ZKG x.1 x.2.1 hx,Tryz.call145⟩
theorem Zu9 (a:Zad) (left:Int) (hpre:szP left):Zam Tryz.prog 66 [.ag (cellsOf Zae a), .c (.int .i64 left)] (.c (.int .i64 (szT left (bulk a)))) []:=by
 refine bc0 [ZGi,Zxe,ZDf,ZKH,ZIv] [] [] [] L0 Tryz.func66 (fun hwf=>?_)
 refine Eq.mpr (β:=T5 (pt (szP left)∧T3 (bif ltI (szT left (bulk a.2.2.2.2.1)) 0 then True∧rI (-1) (szT left (bulk a)) else T3 (pt (szP (szT left (bulk a.2.2.2.2.1)))∧T3 (bif ltI (szT (szT left (bulk a.2.2.2.2.1)) (bulk a.2.2.2.2.2.1)) 0 then True∧rI (-1) (szT left (bulk a)) else T8 (bif ltI (w64 (szT (szT left (bulk a.2.2.2.2.1)) (bulk a.2.2.2.2.2.1) - (a.2.2.2.2.2.2.1.size:Int))) 0 then True∧rI (-1) (szT left (bulk a)) else T8 (bif ltI (w64 ((w64 (szT (szT left (bulk a.2.2.2.2.1)) (bulk a.2.2.2.2.2.1) - (a.2.2.2.2.2.2.1.size:Int))) - (a.2.2.2.2.2.2.2.1.size:Int))) 0 then True∧rI (-1) (szT left (bulk a)) else T3 (pt (szP (w64 ((w64 (szT (szT left (bulk a.2.2.2.2.1)) (bulk a.2.2.2.2.2.1) - (a.2.2.2.2.2.2.1.size:Int))) - (a.2.2.2.2.2.2.2.1.size:Int))))∧T3 (bif ltI (szT (w64 ((w64 (szT (szT left (bulk a.2.2.2.2.1)) (bulk a.2.2.2.2.2.1) - (a.2.2.2.2.2.2.1.size:Int))) - (a.2.2.2.2.2.2.2.1.size:Int))) (bulk a.2.2.2.2.2.2.2.2.1)) 0 then True∧rI (-1) (szT left (bulk a)) else T3 (pt (szP (szT (w64 ((w64 (szT (szT left (bulk a.2.2.2.2.1)) (bulk a.2.2.2.2.2.1) - (a.2.2.2.2.2.2.1.size:Int))) - (a.2.2.2.2.2.2.2.1.size:Int))) (bulk a.2.2.2.2.2.2.2.2.1)))∧T3 (bif ltI (szT (szT (w64 ((w64 (szT (szT left (bulk a.2.2.2.2.1)) (bulk a.2.2.2.2.2.1) - (a.2.2.2.2.2.2.1.size:Int))) - (a.2.2.2.2.2.2.2.1.size:Int))) (bulk a.2.2.2.2.2.2.2.2.1)) (bulk a.2.2.2.2.2.2.2.2.2.1)) 0 then True∧rI (-1) (szT left (bulk a)) else T3 (pt (szP (szT (szT (w64 ((w64 (szT (szT left (bulk a.2.2.2.2.1)) (bulk a.2.2.2.2.2.1) - (a.2.2.2.2.2.2.1.size:Int))) - (a.2.2.2.2.2.2.2.1.size:Int))) (bulk a.2.2.2.2.2.2.2.2.1)) (bulk a.2.2.2.2.2.2.2.2.2.1)))∧T3 (bif ltI (szT (szT (szT (w64 ((w64 (szT (szT left (bulk a.2.2.2.2.1)) (bulk a.2.2.2.2.2.1) - (a.2.2.2.2.2.2.1.size:Int))) - (a.2.2.2.2.2.2.2.1.size:Int))) (bulk a.2.2.2.2.2.2.2.2.1)) (bulk a.2.2.2.2.2.2.2.2.2.1)) (bulk a.2.2.2.2.2.2.2.2.2.2.1)) 0 then True∧rI (-1) (szT left (bulk a)) else T2 (rI (szT (szT (szT (w64 ((w64 (szT (szT left (bulk a.2.2.2.2.1)) (bulk a.2.2.2.2.2.1) - (a.2.2.2.2.2.2.1.size:Int))) - (a.2.2.2.2.2.2.2.1.size:Int))) (bulk a.2.2.2.2.2.2.2.2.1)) (bulk a.2.2.2.2.2.2.2.2.2.1)) (bulk a.2.2.2.2.2.2.2.2.2.2.1)) (szT left (bulk a)))))))))))))))) (by kernel_rfl) ?_
 unfold T2 T3 T5 T8
 obtain ⟨hp0,hp1⟩:=hpre
 have H0:=Za8 left (bulk a)
 have hb:bulk a=bulk a.2.2.2.2.1 + bulk a.2.2.2.2.2.1 + ByteArray.size a.2.2.2.2.2.2.1 + ByteArray.size a.2.2.2.2.2.2.2.1 + bulk a.2.2.2.2.2.2.2.2.1 + bulk a.2.2.2.2.2.2.2.2.2.1 + bulk a.2.2.2.2.2.2.2.2.2.2.1:=by
  have e:bulk a=0 + (0 + (0 + (0 + (bulk a.2.2.2.2.1 + (bulk a.2.2.2.2.2.1 + (ByteArray.size a.2.2.2.2.2.2.1 + (ByteArray.size a.2.2.2.2.2.2.2.1 + (bulk a.2.2.2.2.2.2.2.2.1 + (bulk a.2.2.2.2.2.2.2.2.2.1 + (bulk a.2.2.2.2.2.2.2.2.2.2.1 + (0))))))))))):=rfl
  omega
 have m6:ByteArray.size a.2.2.2.2.2.2.1≤maxLen:=hwf.1.2.2.2.2.2.2.2.1
 have m7:ByteArray.size a.2.2.2.2.2.2.2.1≤maxLen:=hwf.1.2.2.2.2.2.2.2.2.1
 have w4:=Za8 left (bulk a.2.2.2.2.1)
 have w5:=Za8 (szT left (bulk a.2.2.2.2.1)) (bulk a.2.2.2.2.2.1)
 have w6:=Zh1 ((szT (szT left (bulk a.2.2.2.2.1)) (bulk a.2.2.2.2.2.1)) - (ByteArray.size a.2.2.2.2.2.2.1:Int))
 have w7:=Zh1 ((IntKind.wrap .i64 ((szT (szT left (bulk a.2.2.2.2.1)) (bulk a.2.2.2.2.2.1)) - (ByteArray.size a.2.2.2.2.2.2.1:Int))) - (ByteArray.size a.2.2.2.2.2.2.2.1:Int))
 have w8:=Za8 (IntKind.wrap .i64 ((IntKind.wrap .i64 ((szT (szT left (bulk a.2.2.2.2.1)) (bulk a.2.2.2.2.2.1)) - (ByteArray.size a.2.2.2.2.2.2.1:Int))) - (ByteArray.size a.2.2.2.2.2.2.2.1:Int))) (bulk a.2.2.2.2.2.2.2.2.1)
 have w9:=Za8 (szT (IntKind.wrap .i64 ((IntKind.wrap .i64 ((szT (szT left (bulk a.2.2.2.2.1)) (bulk a.2.2.2.2.2.1)) - (ByteArray.size a.2.2.2.2.2.2.1:Int))) - (ByteArray.size a.2.2.2.2.2.2.2.1:Int))) (bulk a.2.2.2.2.2.2.2.2.1)) (bulk a.2.2.2.2.2.2.2.2.2.1)
 have w10:=Za8 (szT (szT (IntKind.wrap .i64 ((IntKind.wrap .i64 ((szT (szT left (bulk a.2.2.2.2.1)) (bulk a.2.2.2.2.2.1)) - (ByteArray.size a.2.2.2.2.2.2.1:Int))) - (ByteArray.size a.2.2.2.2.2.2.2.1:Int))) (bulk a.2.2.2.2.2.2.2.2.1)) (bulk a.2.2.2.2.2.2.2.2.2.1)) (bulk a.2.2.2.2.2.2.2.2.2.2.1)
 exact ZdB
def Zva:ZaC Tryz.prog:=⟨66,[.s Zae, .v Zaz],fun x=>szP x.2.1,fun x=>.c (.int .i64 (szT x.2.1 (bulk x.1))),fun _=>[],fun x hx=>Zu9 x.1 x.2.1 hx,Tryz.call66⟩
def Zss (a:List Zad) (left:Int):Nat→List AV→Mem→Zbj
 | 5,tm,M=>⟨Nat,fun y=>(Zcn (ZcC tm [(1, .c (.int .i64 (left - (List.length a:Int) - ((ZaP (List.take y a):Nat):Int)))),(4, .any),(5, .c (.int .i64 ((y:Nat):Int)))]) 12 14,M),fun y=>(y≤List.length a∧(List.length a:Int) + ((ZaP (List.take y a):Nat):Int)≤left),fun y=>(List.length a - y)⟩
 | _,_,_=>⟨Unit,fun _=>([],[]),fun _=>False,fun _=>0⟩
theorem Zst (a:List Zad) (left:Int) (hpre:szP left):Zam Tryz.prog 30 [.c (.hs .no Zae a), .c (.int .i64 left)] (.c (.int .i64 (szT left (bulk a)))) []:=by
 refine bc0 [Zva] [] [] [] (Zss a left) Tryz.func30 (fun hwf=>?_)
 refine Eq.mpr (β:=T8 (bif ltI (w64 (left - (a.length:Int))) 0 then True∧rI (-1) (szT left (bulk a)) else True∧(∃ q:Nat,(q≤a.length∧(a.length:Int) + (ZaP (List.take q a):Int)≤left)∧lxs [hn Zae a] (vI (w64 (left - (a.length:Int))) (left - (a.length:Int) - (ZaP (List.take q a):Int))∧lxs [.tp [], .tp []] (True∧vI 0 q∧lxs [ci left,hn Zae a,ci a.length,ci (w64 (left - (a.length:Int))),ci (w64 (left - (a.length:Int))), .c (.bool false)] (TN 14 (lxs [.tp []] True))))∧pt (True))∧∀ y0:Nat,(y0≤a.length∧(a.length:Int) + (ZaP (List.take y0 a):Int)≤left)→T4 (bif ltI y0 a.length then T2 (ix 17 y0 a.length∧T2 (pt (szP (left - (a.length:Int) - (ZaP (List.take y0 a):Int)))∧T3 (bif ltI (szT (left - (a.length:Int) - (ZaP (List.take y0 a):Int)) (bulk (Zaa a y0))) 0 then True∧rI (-1) (szT left (bulk a)) else T3 (∃ y0' : Nat,(y0'≤a.length∧(a.length:Int) + (ZaP (List.take y0' a):Int)≤left)∧(a.length - y0') < (a.length - y0)∧lxs [hn Zae a] (vI (szT (left - (a.length:Int) - (ZaP (List.take y0 a):Int)) (bulk (Zaa a y0))) (left - (a.length:Int) - (ZaP (List.take y0' a):Int))∧lxs [.tp [], .tp []] (True∧vI (w64 ((y0:Int) + 1)) y0'∧lxs [ci left,hn Zae a,ci a.length,ci (w64 (left - (a.length:Int))),ci (w64 (left - (a.length:Int))), .c (.bool false)] (TN 14 (lxs [.tp []] True))))∧pt (True))))) else T2 (rI (left - (a.length:Int) - (ZaP (List.take y0 a):Int)) (szT left (bulk a)))))) (by kernel_rfl) ?_
 unfold T2 T3 T4 T8
 obtain ⟨hp0,hp1⟩:=hpre
 have hm:a.length≤maxLen:=hwf.1.1
 have H0:=Za8 left (bulk a)
 have hb:bulk a=a.length + ZaP a:=rfl
 have w0:=Zh1 (left - (List.length a:Int))
 unfold maxLen at hm
 have z0:ZaP (List.take 0 a)=0:=rfl
 have z1:ZaP (List.take a.length a)=ZaP a:=by rw [List.take_length]
 simp only [SIA,eq_self]
 refine ⟨fun h=>by omega,fun h=>⟨⟨0,⟨Nat.zero_le _,by omega⟩,?_⟩,fun k hk=>⟨fun hlt=>?_,fun hge=>?_⟩⟩⟩
 ·exact Zhg
 ·have hlt:k < a.length:=by omega
  have hk:=Zau (t:=Zae) hlt
  have s1:ZaP (List.take (k + 1) a)=ZaP (List.take k a) + bulk (Zaa a k):=ZeG hk
  have s2:ZaP (List.take (k + 1) a)≤ZaP a:=ZhC a (k + 1)
  have k1:=ZbL (k:=k) (by unfold maxLen; omega)
  have w1:=Za8 (left - (List.length a:Int) - ((ZaP (List.take k a):Nat):Int)) (bulk (Zaa a k))
  (try unfold maxLen at *)
  exact Zhe
 ·exact Zhf
def Zsu:ZaC Tryz.prog:=⟨30,[.v (.list Zae), .v Zaz],fun x=>szP x.2.1,fun x=>.c (.int .i64 (szT x.2.1 (bulk x.1))),fun _=>[],fun x hx=>Zst x.1 x.2.1 hx,Tryz.call30⟩
theorem Zxh (a:ZaE) (left:Int) (hpre:szP left):Zam Tryz.prog 9 [.ag (cellsOf ZaV a), .c (.int .i64 left)] (.c (.int .i64 (szT left (bulk a)))) []:=by
 refine bc0 [ZC8,Zsu] [] [] [] L0 Tryz.func9 (fun hwf=>?_)
 refine Eq.mpr (β:=T5 (pt (szP left)∧T3 (bif ltI (szT left (bulk a.1)) 0 then True∧rI (-1) (szT left (bulk a)) else T3 (pt (szP (szT left (bulk a.1)))∧T3 (bif ltI (szT (szT left (bulk a.1)) (bulk a.2)) 0 then True∧rI (-1) (szT left (bulk a)) else T2 (rI (szT (szT left (bulk a.1)) (bulk a.2)) (szT left (bulk a)))))))) (by kernel_rfl) ?_
 obtain ⟨hp0,hp1⟩:=hpre
 have H0:=Za8 left (bulk a)
 have hb:bulk a=bulk a.1 + bulk a.2:=by
  have e:bulk a=bulk a.1 + (bulk a.2):=rfl
  omega
 have w0:=Za8 left (bulk a.1)
 have w1:=Za8 (szT left (bulk a.1)) (bulk a.2)
 exact ZdB
def ZjG:ZaC Tryz.prog:=⟨9,[.s ZaV, .v Zaz],fun x=>szP x.2.1,fun x=>.c (.int .i64 (szT x.2.1 (bulk x.1))),fun _=>[],fun x hx=>Zxh x.1 x.2.1 hx,Tryz.call9⟩
end Go.Proofs.YtkompmgleojmlaaGreat
