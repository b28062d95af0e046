import Derived.Test.YtkeglpnnedflnaaGreatDoorPLawA
set_option linter.unusedSimpArgs false
set_option linter.unusedVariables false
set_option maxRecDepth 100000
set_option maxHeartbeats 4000000
namespace Go.Proofs.YtkeglpnnedflnaaGreatDoor
open Go.ChangeShapes Go.WideShapes Go.ChangeAt Go.RowKit Go.Joins Go.Deep
open GoRep (rep bulk)
theorem Zye (a:GToken) (left:Int) (hpre:szP left):Zaq Tryz.prog 68 [.ag [.int .i64 a.1, .str a.2], .c (.int .i64 left)] (.c (.int .i64 (szT left (bulk a)))) []:=by
 refine bc0 [] [] [] [] L0 Tryz.func68 (fun hwf=>?_)
 refine Eq.mpr (β:=T10 (bif ltI (w64 (left - (a.2.size:Int))) 0 then True∧rI (-1) (szT left (bulk a)) else T2 (rI (w64 (left - (a.2.size:Int))) (szT left (bulk a))))) (by kernel_rfl) ?_
 obtain ⟨hp0,hp1⟩:=hpre
 have H0:=ZkF left (bulk a)
 have hb:bulk a=ByteArray.size a.2:=by
  have e:bulk a=0 + (ByteArray.size a.2):=rfl
  omega
 have m1:ByteArray.size a.2≤maxLen:=hwf.1.2.1
 have w1:=ZL0 (left - (ByteArray.size a.2:Int))
 try unfold maxLen at *
 exact ZvM
def Zyf:ZaD Tryz.prog:=⟨68,[.s Zab, .v ZaF],fun x=>szP x.2.1,fun x=>.c (.int .i64 (szT x.2.1 (bulk x.1))),fun _=>[],fun x hx=>Zye x.1 x.2.1 hx,Tryz.call68⟩
def Zth (a:List GToken) (left:Int):Nat→List AV→Mem→Zbe
 | 5,tm,M=>⟨Nat,fun y=>(Zcp (ZcG tm [(1, .c (.int .i64 (left - (List.length a:Int) - ((Zb6 (List.take y a):Nat):Int)))),(4, .any),(5, .c (.int .i64 ((y:Nat):Int)))]) 12 14,M),fun y=>(y≤List.length a∧(List.length a:Int) + ((Zb6 (List.take y a):Nat):Int)≤left),fun y=>(List.length a - y)⟩
 | _,_,_=>⟨Unit,fun _=>([],[]),fun _=>False,fun _=>0⟩
theorem Zti (a:List GToken) (left:Int) (hpre:szP left):Zaq Tryz.prog 14 [.c (.hs .no Zab a), .c (.int .i64 left)] (.c (.int .i64 (szT left (bulk a)))) []:=by
 refine bc0 [Zyf] [] [] [] (Zth a left) Tryz.func14 (fun hwf=>?_)
 refine Eq.mpr (β:=T8 (bif ltI (w64 (left - (a.length:Int))) 0 then True∧rI (-1) (szT left (bulk a)) else True∧(∃ q:Nat,(q≤a.length∧(a.length:Int) + (Zb6 (List.take q a):Int)≤left)∧lxs [hn Zab a] (vI (w64 (left - (a.length:Int))) (left - (a.length:Int) - (Zb6 (List.take q a):Int))∧lxs [.tp [], .tp []] (True∧vI 0 q∧lxs [ci left,hn Zab a,ci a.length,ci (w64 (left - (a.length:Int))),ci (w64 (left - (a.length:Int))), .c (.bool false)] (TN 14 (lxs [.tp []] True))))∧pt (True))∧∀ y0:Nat,(y0≤a.length∧(a.length:Int) + (Zb6 (List.take y0 a):Int)≤left)→T4 (bif ltI y0 a.length then T2 (ix 2 y0 a.length∧T2 (pt (szP (left - (a.length:Int) - (Zb6 (List.take y0 a):Int)))∧T3 (bif ltI (szT (left - (a.length:Int) - (Zb6 (List.take y0 a):Int)) (bulk (Zag a y0))) 0 then True∧rI (-1) (szT left (bulk a)) else T3 (∃ y0' : Nat,(y0'≤a.length∧(a.length:Int) + (Zb6 (List.take y0' a):Int)≤left)∧(a.length - y0') < (a.length - y0)∧lxs [hn Zab a] (vI (szT (left - (a.length:Int) - (Zb6 (List.take y0 a):Int)) (bulk (Zag a y0))) (left - (a.length:Int) - (Zb6 (List.take y0' a):Int))∧lxs [.tp [], .tp []] (True∧vI (w64 ((y0:Int) + 1)) y0'∧lxs [ci left,hn Zab a,ci a.length,ci (w64 (left - (a.length:Int))),ci (w64 (left - (a.length:Int))), .c (.bool false)] (TN 14 (lxs [.tp []] True))))∧pt (True))))) else T2 (rI (left - (a.length:Int) - (Zb6 (List.take y0 a):Int)) (szT left (bulk a)))))) (by kernel_rfl) ?_
 unfold T2 T3 T4 T8
 obtain ⟨hp0,hp1⟩:=hpre
 have hm:a.length≤maxLen:=hwf.1.1
 have H0:=ZkF left (bulk a)
 have hb:bulk a=a.length + Zb6 a:=rfl
 have w0:=ZL0 (left - (List.length a:Int))
 unfold maxLen at hm
 have z0:Zb6 (List.take 0 a)=0:=rfl
 have z1:Zb6 (List.take a.length a)=Zb6 a:=by rw [List.take_length]
 simp only [SIA,eq_self]
 refine ⟨fun h=>by omega,fun h=>⟨⟨0,⟨Nat.zero_le _,by omega⟩,?_⟩,fun k hk=>⟨fun hlt=>?_,fun hge=>?_⟩⟩⟩
 ·first | (refine ⟨?_,?_⟩ <;> omega) | omega
 ·have hlt:k < a.length:=by omega
  have hk:=Zat (t:=Zab) hlt
  have s1:Zb6 (List.take (k + 1) a)=Zb6 (List.take k a) + bulk (Zag a k):=Zrb hk
  have s2:Zb6 (List.take (k + 1) a)≤Zb6 a:=ZAc a (k + 1)
  have k1:=Zbm (k:=k) (by unfold maxLen; omega)
  have w1:=ZkF (left - (List.length a:Int) - ((Zb6 (List.take k a):Nat):Int)) (bulk (Zag a k))
  (try unfold maxLen at *)
  repeat' (first | apply And.intro | intro _)
  all_goals (first | trivial | omega | (refine ⟨k + 1,⟨by omega,by omega⟩,by omega,?_⟩; first | (refine ⟨?_,?_⟩ <;> omega) | omega))
 ·obtain rfl:k=a.length:=by omega
  omega
def Ztj:ZaD Tryz.prog:=⟨14,[.v (.list Zab), .v ZaF],fun x=>szP x.2.1,fun x=>.c (.int .i64 (szT x.2.1 (bulk x.1))),fun _=>[],fun x hx=>Zti x.1 x.2.1 hx,Tryz.call14⟩
set_option maxRecDepth 100000
set_option maxHeartbeats 4000000
theorem Zyg (a:GToken):Zaq Tryz.prog 69 [.ag [.int .i64 a.1, .str a.2]] (.ag [.int .i64 a.1, .str a.2]) []:=by
 refine bc0 [] [] [] [] L0 Tryz.func69 (fun hwf=>?_)
 refine Eq.mpr (β:=T12 (True∧pt ((cI a.1 a.1∧cS a.2 a.2∧True)))) (by kernel_rfl) ?_
 exact ZvM
def Zyh:ZaD Tryz.prog:=⟨69,[.s Zab],fun x=>True,fun x=>.ag [.int .i64 x.1.1, .str x.1.2],fun _=>[],fun x hx=>Zyg x.1,Tryz.call69⟩
abbrev ZcF (a:List GToken):Prop:=bulk a≤1048576
def Ztk (a:List GToken):Nat→List AV→Mem→Zbe
 | 3,tm,M=>⟨Nat,fun y=>(Zcp (ZcG tm [(4, .c (.int .i64 ((y:Nat):Int)))]) 8 14,ZgY M [(0, .row Zab (List.take y a ++ List.replicate (List.length a - y) ZhW) 0 0 none)]),fun y=>(y≤List.length a),fun y=>(List.length a - y)⟩
 | _,_,_=>⟨Unit,fun _=>([],[]),fun _=>False,fun _=>0⟩
theorem Ztl (a:List GToken) (hpre:ZcF a):Zaq Tryz.prog 15 [.c (.hs .no Zab a)] (.c (.row 0 0)) [.row Zab a 0 0 none]:=by
 refine bc0 [Zyh] [] [] [] (Ztk a) Tryz.func15 (fun hwf=>?_)
 refine Eq.mpr (β:=T3 (((a.length:Int)=(a.length:Int)∧(0:Int)≤(a.length:Int)∧(a.length:Int)≤(rowMax:Int))∧T2 ((∃ q:Nat,(q≤a.length)∧lxs [hn Zab a, .tp [], .c (.raw (.slice none 0 0)), .c (.row 0 0)] (vI 0 q∧lxs [hn Zab a,ci a.length, .c (.row 0 0)] (TN 14 (lxs [.tp []] True)))∧pt (leB (.row Zab (List.replicate a.length ZhW) 0 0 none) (.row Zab (List.take q a ++ List.replicate (a.length - q) ZhW) 0 0 none)∧True))∧∀ y0:Nat,(y0≤a.length)→T4 (bif ltI y0 a.length then T4 (ix 2 y0 a.length∧True∧pt True∧ix 2 y0 (List.length (List.take y0 a ++ List.replicate (a.length - y0) ZhW))∧True∧∀ r1:List GToken,r1=List.set (List.take y0 a ++ List.replicate (a.length - y0) ZhW) y0 (Zag a y0)→T3 (∃ y0' : Nat,(y0'≤a.length)∧(a.length - y0') < (a.length - y0)∧lxs [hn Zab a, .tp [], .c (.raw (.slice none 0 0)), .c (.row 0 0)] (vI (w64 ((y0:Int) + 1)) y0'∧lxs [hn Zab a,ci a.length, .c (.row 0 0)] (TN 14 (lxs [.tp []] True)))∧pt (leB (.row Zab r1 0 0 none) (.row Zab (List.take y0' a ++ List.replicate (a.length - y0') ZhW) 0 0 none)∧True))) else T2 (pt ((List.take y0 a ++ List.replicate (a.length - y0) ZhW)=a)))))) (by kernel_rfl) ?_
 unfold T2 T3 T4
 have hp:bulk a≤1048576:=hpre
 have hb:bulk a=a.length + Zb6 a:=rfl
 simp only [SIA,eq_self]
 refine ⟨⟨by omega,by unfold rowMax; omega⟩,⟨0,Nat.zero_le _,rfl,Eq.mpr (Za9 (t:=Zab)) rfl⟩,fun k hk=>⟨fun hlt=>?_,fun hge=>?_⟩⟩
 ·have hlt:k < a.length:=by omega
  have hk:=Zat (t:=Zab) hlt
  have hl:(List.take k a ++ List.replicate (List.length a - k) ZhW).length=a.length:=by simp; omega
  have hbn:bulk (Zag a k)≤Zb6 a:=ZAd hk
  refine ⟨⟨by omega,by omega⟩,⟨by omega,by rw [hl]; omega⟩,fun r1 hr=>⟨k + 1,hlt,by omega,Zbm (by unfold maxLen; omega),Eq.mpr (Za9 (t:=Zab)) ?_⟩⟩
  exact hr.trans (ZGA hk)
 ·obtain rfl:k=a.length:=by omega
  exact ZGB a _
def Ztm:ZaD Tryz.prog:=⟨15,[.v (.list Zab)],fun x=>ZcF x.1,fun x=>.c (.row 0 0),fun x=>[.row Zab x.1 0 0 none],fun x hx=>Ztl x.1 hx,Tryz.call15⟩
end Go.Proofs.YtkeglpnnedflnaaGreatDoor
