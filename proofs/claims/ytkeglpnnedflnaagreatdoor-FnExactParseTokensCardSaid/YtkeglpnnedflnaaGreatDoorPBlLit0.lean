import Derived.Test.YtkeglpnnedflnaaGreatDoorPBlNum
import Derived.Test.YtkeglpnnedflnaaGreatDoorPBlLib
import Derived.Test.YtkeglpnnedflnaaGreatDoorPBlCmd1
set_option linter.unusedSimpArgs false
set_option linter.unusedVariables false
set_option maxRecDepth 100000
set_option maxHeartbeats 4000000
namespace Go.Proofs.YtkeglpnnedflnaaGreatDoor
open Go.ChangeShapes Go.WideShapes Go.ChangeAt Go.RowKit Go.Joins Go.Deep
open GoRep (rep bulk)
theorem Zqc (n:Int):Zaq Tryz.prog 176 [.c (.int .i64 n)] (.c (.str (⟨(Lib.itoa n).toArray⟩:ByteArray))) []:=by
 refine bc0 [Zpy] [] [] [] L0 Tryz.func176 (fun hwf=>?_)
 refine Eq.mpr (β:=T2 (pt True∧True∧rS (⟨(Lib.itoa n).toArray⟩:ByteArray) (⟨(Lib.itoa n).toArray⟩:ByteArray))) (by kernel_rfl) ?_
 simp only [Zaz,Zbi,ZaC,Bool.not_true,Bool.not_false,Zdj,eq_self]
 repeat' (first | apply And.intro | intro _)
 all_goals exact Zwn
def ZAz:ZaD Tryz.prog:=⟨176,[.v ZaF],fun x=>True,fun x=>.c (.str (⟨(Lib.itoa x.1).toArray⟩:ByteArray)),fun _=>[],fun x hx=>Zqc x.1,Tryz.call176⟩
theorem ZG5 {X:List Nat} {W:World} {E:Env} (h:RepM X W E []):E=[]:=List.length_eq_zero_iff.1 h.len.symm
theorem Zrl {X:List Nat} {W W' : World} (s:ByteArray) (hX:∀ b ∈ X,b < W.heap.size) (g:Zbb W [] W' []) {n:Int} {b:Bool} (hn:n=Ze3 s) (hb:b=Zi1 s) :
 ∃ v E',Ending.returned (.tuple #[.int .i64 n, .bool b])=Ending.returned v∧Zbb W [] W' E'∧RepM X W' E' []∧Zcd X W' E' [] (.tp [.c (.int .i64 (Ze3 s)), .c (.bool (Zi1 s))]) v:=by
 subst hn
 subst hb
 refine ⟨_,[],rfl,g,ZE8 (fun b hb=>Nat.lt_of_lt_of_le (hX b hb) g.size),_,rfl,_,_,rfl,⟨rfl,?_⟩,_,_,rfl,rfl,rfl⟩
 cases h:Zi1 s with
 | true=>have:=ZsM h; exact ZOG (by omega) (by omega)
 | false=>rw [num_no h]; exact ZOG (by omega) (by omega)
theorem ZAA (s:ByteArray) (hpre:s.size≤1048576):Zaq Tryz.prog 200 [.c (.str s)] (.tp [.c (.int .i64 (Ze3 s)), .c (.bool (Zi1 s))]) []:=by
 intro X W vs hX hgl hr
 obtain ⟨v,r,rfl,⟨rfl,hw⟩,hn⟩:=hr
 obtain rfl:r=[]:=hn
 show Calls _ _ #[.string s] W _
 go_enter Tryz.func200,Tryz.ntmps200
 go_wp2_with fail
 refine (ZAF s hpre W hgl).mono fun e W1 h=>?_
 obtain ⟨g1,hc⟩:=h
 have hX1:∀ b ∈ X,b < W1.heap.size:=fun b hb=>Nat.lt_of_lt_of_le (hX b hb) g1.size
 have hno:(∀ n,Lib.atoiAll s.data.toList ≠ .ok n)→Zi1 s=false:=fun ha=>by
  cases hb:Zi1 s with
  | false=>rfl
  | true=>exact absurd (ZsM hb).2.2.2 (ha _)
 rcases hc with ⟨n,ha,rfl⟩ | ⟨ha,n,t,u,rfl⟩
 ·obtain ⟨b1,b2⟩:=Lib.atoiAll_bounds ha
  have hn:(Lit.int .i64 n).wf=true:=ZOG b1 b2
  go_wp2_with fail
  refine (Zqd n 0 999999999 X W1 _ hX1 (hgl.grow g1) ⟨_,_,rfl,⟨rfl,hn⟩,_,_,rfl,⟨rfl,by decide⟩,_,_,rfl,⟨rfl,by decide⟩,rfl⟩).mono fun e W2 h=>?_
  obtain ⟨v2,E2,rfl,g2,m2,hv2⟩:=h
  obtain rfl:=ZG5 m2
  obtain rfl:v2=.bool (btw n 0 999999999):=hv2
  have g3:=g1.trans g2
  cases hb:btw n 0 999999999 with
  | false =>
   go_wp2_with fail
   go_ret2
   have hf:Zi1 s=false:=by
    cases hq:Zi1 s with
    | false=>rfl
    | true =>
     have h1:=ZsM hq
     rw [ha] at h1
     obtain rfl:n=Ze3 s:=by injection h1.2.2.2
     have:=Zbi.1 hb
     omega
   exact Zrl s hX g3 (num_no hf).symm hf.symm
  | true =>
   have hb':=Zaz.1 hb
   go_wp2_with fail
   refine (Zqc n X W2 _ (fun b hb=>Nat.lt_of_lt_of_le (hX b hb) g3.size) (hgl.grow g3) ⟨_,_,rfl,⟨rfl,hn⟩,rfl⟩).mono fun e W3 h=>?_
   obtain ⟨v3,E3,rfl,g4,m3,hv3⟩:=h
   obtain rfl:=ZG5 m3
   obtain rfl:v3=.string ⟨(Lib.itoa n).toArray⟩:=hv3.1
   have g5:=g3.trans g4
   by_cases he:(⟨(Lib.itoa n).toArray⟩:ByteArray)=s
   ·have h1:=ZHV (t:=s) hb'.1 hb'.2 (by rw [← he])
    go_wp2_with fail
    go_ret2
    exact Zrl s hX g5 h1.2.symm h1.1.symm
   ·have hf:Zi1 s=false:=by
     cases hq:Zi1 s with
     | false=>rfl
     | true =>
      have h1:=ZsM hq
      rw [ha] at h1
      obtain rfl:n=Ze3 s:=by injection h1.2.2.2
      exact absurd (by apply ByteArray.ext; rw [h1.2.2.1]) he
    have hq:(Lib.itoa n == s.toList)=false:=by
     rw [beq_eq_false_iff_ne]
     intro q
     exact he (by apply ByteArray.ext; rw [q,ByteArray.toList_eq])
    go_wp2_with fail
    go_ret2
    exact Zrl s hX g5 (num_no hf).symm hf.symm
 ·go_wp2_with fail
  go_ret2
  exact Zrl s hX g1 (num_no (hno ha)).symm (hno ha).symm
def ZAB:ZaD Tryz.prog:=⟨200,[.v Zah],fun x=>ByteArray.size x.1≤1048576,fun x=>.tp [.c (.int .i64 (Ze3 x.1)), .c (.bool (Zi1 x.1))],fun _=>[],fun x hx=>ZAA x.1 hx,Tryz.call200⟩
def ZAC (s:ByteArray):Nat→List AV→Mem→Zbe
 | 5,tm,M=>⟨Nat,fun y=>(Zcp (ZcG tm [(2, .any),(3, .any),(4, .c (.int .i64 ((Zjy 0 (List.take y s.data.toList):Nat):Int))),(5, .c (.int .i64 ((y:Nat):Int)))]) 14 24,M),fun y=>(y≤ByteArray.size s∧∀ j,j < y→48≤Zap s j∧Zap s j≤57),fun y=>(ByteArray.size s - y)⟩
 | _,_,_=>⟨Unit,fun _=>([],[]),fun _=>False,fun _=>0⟩
def Zk5 (s:ByteArray):Prop:=T2 (pt ((cI 0 (Ze3 s)∧cB false (Zi1 s)∧True)))
def Zrm (y0:Nat) (s:ByteArray):Prop:=(0:Int)≤(y0:Int)∧(y0:Int) < (s.size:Int)
theorem ZAD (s:ByteArray) (hpre:ByteArray.size s≤1048576):Zaq Tryz.prog 198 [.c (.str s)] (.tp [.c (.int .i64 (Ze3 s)), .c (.bool (Zi1 s))]) []:=by
 refine bc0 [Zp8] [] [] [] (ZAC s) Tryz.func198 (fun hwf=>?_)
 refine Eq.mpr (β:=T6 (bif ltI s.size 1 then True∧Zk5 s else T4 (bif gtI s.size 9 then Zk5 s else T2 ((∃ q:Nat,(q≤s.size∧∀ j,j < q→48≤Zap s j∧Zap s j≤57)∧lxs [.c (.str s), .tp []] (True∧True∧vI 0 (Zjy 0 (List.take q s.data.toList))∧vI 0 q∧lxs [.c (.str s),ci s.size, .c (.bool (ltI s.size 1)), .c (.bool false), .c (.str s),ci s.size, .c (.bool (gtI s.size 9)), .c (.bool false)] (TN 24 (tpn 5 True)))∧pt (True))∧∀ y0:Nat,(y0≤s.size∧∀ j,j < y0→48≤Zap s j∧Zap s j≤57)→T4 (bif ltI y0 s.size then T2 (Zrm y0 s∧T2 (bif ltI (Zap s y0) 48 then True∧Zk5 s else T2 (Zrm y0 s∧T2 (bif gtI (Zap s y0) 57 then Zk5 s else T4 (Zrm y0 s∧True∧true=true∧T5 (∃ y0' : Nat,(y0'≤s.size∧∀ j,j < y0'→48≤Zap s j∧Zap s j≤57)∧(s.size - y0') < (s.size - y0)∧lxs [.c (.str s), .tp []] (True∧True∧vI (w64 ((w64 (10 * (Zjy 0 (List.take y0 s.data.toList):Int))) + (w64 (IntKind.wrap .u8 ((Zap s y0) - 48))))) (Zjy 0 (List.take y0' s.data.toList))∧vI (w64 ((y0:Int) + 1)) y0'∧lxs [.c (.str s),ci s.size, .c (.bool (ltI s.size 1)), .c (.bool false), .c (.str s),ci s.size, .c (.bool (gtI s.size 9)), .c (.bool false)] (TN 24 (tpn 5 True)))∧pt (True))))))) else True∧pt (Zmt (Zjy 0 (List.take y0 s.data.toList):Int))∧T2 (bif !eqS (⟨(Lib.itoa (Zjy 0 (List.take y0 s.data.toList):Int)).toArray⟩:ByteArray) s then Zk5 s else T3 (pt ((cI (Zjy 0 (List.take y0 s.data.toList)) (Ze3 s)∧cB true (Zi1 s)∧True))))))))) (by kernel_rfl) ?_
 unfold Zrm Zk5 T2 T3 T4 T5 T6
 have hsz:ByteArray.size s≤1048576:=hpre
 simp only [Zaz,Zbi,ZaC,Bool.not_true,Bool.not_false,Zdj,eq_self]
 repeat' (first | apply And.intro | intro _)
 all_goals first
  | (with_reducible trivial)
  | omega
  | (with_reducible assumption)
  | (show 0≤((_:Nat):Int); omega)
  | exact (num_no (ZJA (.inl (by omega)))).symm
  | exact (ZJA (.inl (by omega))).symm
  | exact (num_no (ZJA (.inr (.inl (by omega))))).symm
  | exact (ZJA (.inr (.inl (by omega)))).symm
  | exact ⟨0,⟨Nat.zero_le _,fun j hj=>absurd hj (Nat.not_lt_zero j)⟩,rfl,rfl⟩
  | exact ZGK (by omega) (by assumption) (by omega) (by omega) (by omega)
  | exact (num_no (ZJA (.inr (.inr ⟨_,Int.ofNat_lt.1 (by assumption),fun q=>by omega⟩)))).symm
  | exact (ZJA (.inr (.inr ⟨_,Int.ofNat_lt.1 (by assumption),fun q=>by omega⟩))).symm
  | (rename_i y hy hge hd; exact (num_no (num_not (y:=y) (by omega) hd)).symm)
  | (rename_i y hy hge hd; exact (num_not (y:=y) (by omega) hd).symm)
  | (rename_i y hy hge hd; exact (ZEG (by omega) (by omega) hy (by omega) hd).1)
  | (rename_i y hy hge hd; exact (ZEG (by omega) (by omega) hy (by omega) hd).2)
def ZAE:ZaD Tryz.prog:=⟨198,[.v Zah],fun x=>ByteArray.size x.1≤1048576,fun x=>.tp [.c (.int .i64 (Ze3 x.1)), .c (.bool (Zi1 x.1))],fun _=>[],fun x hx=>ZAD x.1 hx,Tryz.call198⟩
end Go.Proofs.YtkeglpnnedflnaaGreatDoor
