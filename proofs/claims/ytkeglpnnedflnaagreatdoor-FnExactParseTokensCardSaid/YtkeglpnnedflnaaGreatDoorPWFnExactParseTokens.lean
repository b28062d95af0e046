import Derived.Test.YtkeglpnnedflnaaGreatDoorPBlTo
import Derived.Test.YtkeglpnnedflnaaGreatDoorPBlMk
import Derived.Test.YtkeglpnnedflnaaGreatDoorPBlHd
import Derived.Test.YtkeglpnnedflnaaGreatDoorPEqB
import Derived.Test.YtkeglpnnedflnaaGreatDoorPBlPtL
set_option linter.unusedSimpArgs false
set_option linter.unusedVariables false
set_option maxRecDepth 100000
set_option maxHeartbeats 4000000
namespace Go.Proofs.YtkeglpnnedflnaaGreatDoor
open Go.ChangeShapes Go.WideShapes Go.ChangeAt Go.RowKit Go.Joins Go.Deep
open GoRep (rep bulk)
open GoMark (mrk cnt mrkI cntI)
theorem Zp7 (x:GCommand):Zcl x x=true:=ZeK.2 rfl
theorem ZsR (x:List GToken):ZcY x x=true:=ZdI.2 rfl
def Zy3 (x0:List GToken) (r1:List Zaj) (r2:List GScope):Prop:=ZdY ((pR x0).1,(pR x0).2.1,(pR x0).2.2.1,(pR x0).2.2.2.1,(pR x0).2.2.2.2.1,r1,(pR x0).2.2.2.2.2.2.1,(pR x0).2.2.2.2.2.2.2.1,(pR x0).2.2.2.2.2.2.2.2.1,(pR x0).2.2.2.2.2.2.2.2.2.1,r2) 1∧pt (true=true)
theorem ZdU (x0:List GToken):Zaq Tryz.prog 4 [.c (.hs .no Zab x0)] (.c (.bool true)) []:=by
 refine bc0 [Ztj,Ztm,Zno,Znl,ZsJ,ZuD,Zm5] [] [] [Zpr,Zna] L0 Tryz.func4 (fun hwf=>?_)
 refine Eq.mpr (β:=T4 (pt (szP 1048576)∧T3 (bif ltI (szT 1048576 (bulk x0)) 0 then True∧rB true true else True∧pt (ZcF x0)∧(Zef x0∧pt (true=true))∧T7 (pt (ZcF x0)∧T2 ((Zef x0∧pt (true=true))∧T8 ((True∧pt (true=true))∧T2 (bif !(Zcl (pR x0) (sP x0)) then T2 (rB false true) else T2 (some TypeDesc.bool=some TypeDesc.bool∧True∧bif !eqO (pB x0) (sB x0) then True∧rB false true else T2 (pt (ZcF x0)∧(True∧pt (true=true))∧True∧bif !(ZcY x0 x0) then True∧rB false true else T3 (pt (ZeE x0 1∧x0=x0∧True)∧∀ r0:List GToken,r0=ZbG x0 1→T4 (bif ltI (Zax x0 1) 0 then T4 (rB false true) else T2 ((True∧pt (true=true))∧T3 (bif !(Zcl (pR x0) (sP x0)) then T2 (rB false true) else T2 (some TypeDesc.bool=some TypeDesc.bool∧True∧bif !eqO (pB x0) (sB x0) then True∧rB false true else T3 (pt (Zd0 (pR x0) 1∧(cS (pR x0).1 (pR x0).1∧cI (pR x0).2.1 (pR x0).2.1∧cS (pR x0).2.2.1 (pR x0).2.2.1∧cS (pR x0).2.2.2.1 (pR x0).2.2.2.1∧cB (pR x0).2.2.2.2.1 (pR x0).2.2.2.2.1∧(pR x0).2.2.2.2.2.1=(pR x0).2.2.2.2.2.1∧cI (pR x0).2.2.2.2.2.2.1 (pR x0).2.2.2.2.2.2.1∧cI (pR x0).2.2.2.2.2.2.2.1 (pR x0).2.2.2.2.2.2.2.1∧cS (pR x0).2.2.2.2.2.2.2.2.1 (pR x0).2.2.2.2.2.2.2.2.1∧cB (pR x0).2.2.2.2.2.2.2.2.2.1 (pR x0).2.2.2.2.2.2.2.2.2.1∧(pR x0).2.2.2.2.2.2.2.2.2.2=(pR x0).2.2.2.2.2.2.2.2.2.2∧True)∧True)∧∀ r1:List Zaj,r1=(Zbl (pR x0) 1).2.2.2.2.2.1→∀ r2:List GScope,r2=(Zbl (pR x0) 1).2.2.2.2.2.2.2.2.2.2→T4 (Zy3 x0 r1 r2∧T3 (bif ltI (ZaZ ((pR x0).1,(pR x0).2.1,(pR x0).2.2.1,(pR x0).2.2.2.1,(pR x0).2.2.2.2.1,r1,(pR x0).2.2.2.2.2.2.1,(pR x0).2.2.2.2.2.2.2.1,(pR x0).2.2.2.2.2.2.2.2.1,(pR x0).2.2.2.2.2.2.2.2.2.1,r2) 1) 0 then True∧rB false true else T3 (bif neI (ZaZ ((pR x0).1,(pR x0).2.1,(pR x0).2.2.1,(pR x0).2.2.2.1,(pR x0).2.2.2.2.1,r1,(pR x0).2.2.2.2.2.2.1,(pR x0).2.2.2.2.2.2.2.1,(pR x0).2.2.2.2.2.2.2.2.1,(pR x0).2.2.2.2.2.2.2.2.2.1,r2) 1) (Zbw (pR x0) 1) then True∧rB false true else True∧pt (ZcF x0)∧(Zef x0∧pt (true=true))∧T8 ((True∧pt (true=true))∧T2 (bif !(Zcl (pR x0) (sP x0)) then T2 (rB false true) else T2 (some TypeDesc.bool=some TypeDesc.bool∧True∧bif !eqO (pB x0) (sB x0) then True∧rB false true else T3 (Zy3 x0 r1 r2∧T3 (bif ltI (ZaZ ((pR x0).1,(pR x0).2.1,(pR x0).2.2.1,(pR x0).2.2.2.1,(pR x0).2.2.2.2.1,r1,(pR x0).2.2.2.2.2.2.1,(pR x0).2.2.2.2.2.2.2.1,(pR x0).2.2.2.2.2.2.2.2.1,(pR x0).2.2.2.2.2.2.2.2.2.1,r2) 1) 0 then True∧rB false true else T3 (bif neI (ZaZ ((pR x0).1,(pR x0).2.1,(pR x0).2.2.1,(pR x0).2.2.2.1,(pR x0).2.2.2.2.1,r1,(pR x0).2.2.2.2.2.2.1,(pR x0).2.2.2.2.2.2.2.1,(pR x0).2.2.2.2.2.2.2.2.1,(pR x0).2.2.2.2.2.2.2.2.2.1,r2) 1) (Zbw (pR x0) 1) then True∧rB false true else True∧rB true true)))))))))))))))))))))))) (by kernel_rfl) ?_
 unfold Zy3 T2 T3 T4 T7 T8
 have hz_x0:=ZkF 1048576 (bulk x0)
 have hb_x0:cntL x0≤(2) * (1 + bulk x0):=Zph.h2 x0
 have e1:bulk x0=List.length x0 + Zb6 x0:=rfl
 have hN0:cntI (pR x0)≤25:=ZK8 x0
 rcases Nat.lt_or_ge 1048576 (bulk x0) with hl1 | hl0
 ·have hs:ltI (szT 1048576 (bulk x0)) 0=true:=ZbN.2 (by omega)
  simp only [hs,cond_true,SIA]
  repeat' (with_reducible first | exact trivial | apply And.intro | intro _)
  all_goals first | (with_reducible trivial) | omega | rfl
 have htk:Zef x0:=ZCX hl0
 obtain ⟨hr1,hr2⟩:=ZIz (l:=x0) htk.1
 rw [← hr1,← hr2]
 simp only [forall_eq,Zp7,ZsR,Zbw,Zbl,Zax,ZbG,ZaZ,not_true,not_false,false_implies,true_implies,Bool.not_true,Bool.not_false,SIA,eq_self]
 generalize hc0:pR x0=c0 at hN0 ⊢
 have hm0:cntI (mrkI c0 1)=cntI c0:=ZmF.c2 c0 1
 have hT0:((c0.1,(c0.2.1,(c0.2.2.1,(c0.2.2.2.1,(c0.2.2.2.2.1,((mrkI c0 1).2.2.2.2.2.1,(c0.2.2.2.2.2.2.1,(c0.2.2.2.2.2.2.2.1,(c0.2.2.2.2.2.2.2.2.1,(c0.2.2.2.2.2.2.2.2.2.1,(mrkI c0 1).2.2.2.2.2.2.2.2.2.2)))))))))))=mrkI c0 1:=rfl
 simp only [hT0,hm0]
 have hI0:mrkI (mrkI c0 1) 1=mrkI c0 1:=ZmF.i2 c0 1
 repeat' (with_reducible first | exact trivial | apply And.intro | intro _)
 all_goals first
  | (with_reducible trivial)
  | omega
  | (with_reducible exact hI0)
  | (with_reducible (rw [hm0]; omega))
  | contradiction
  | (with_reducible (show bulk x0≤1048576); omega)
  | exact htk
def ZsT:ZaD Tryz.prog:=⟨4,[.v (.list Zab)],fun x=>True,fun x=>.c (.bool true),fun _=>[],fun x hx=>ZdU x.1,Tryz.call4⟩
theorem ZgS (w:World) (hgl:ZiD w []) (x0:List GToken) (vx0:Value) (hx0:ZHX w x0 [vx0]):Calls Tryz.prog 4 #[vx0] w (RV (.bool (true)) w) :=
 RV.of_b (ZdU x0) hgl (⟨_,_,rfl,ZBp Zab hx0,rfl⟩) (fun _ _ _ h=>h)
end Go.Proofs.YtkeglpnnedflnaaGreatDoor
