import Derived.Test.YtafhbjjcpncfnaaGreatIBlSz
import Derived.Test.YtafhbjjcpncfnaaGreatIBlTo
import Derived.Test.YtafhbjjcpncfnaaGreatIBlMkS
import Derived.Test.YtafhbjjcpncfnaaGreatIBlHdS
import Derived.Test.YtafhbjjcpncfnaaGreatIEqB
import Derived.Test.YtafhbjjcpncfnaaGreatIBlTick
import Derived.Test.YtafhbjjcpncfnaaGreatIBlSmT
set_option linter.unusedSimpArgs false
set_option linter.unusedVariables false
set_option maxRecDepth 100000
set_option maxHeartbeats 4000000
namespace Go.Proofs.YtafhbjjcpncfnaaGreat
open Go.ChangeShapes Go.WideShapes Go.ChangeAt Go.RowKit Go.Joins Go.Deep
open GoRep (rep bulk)
open GoMark (mrk cnt mrkI cntI)
theorem ZvZ (x:ZaT):Zc7 x x=true:=Zhc.2 rfl
theorem ZEe (x:List Int):ZeT x x=true:=Zgq.2 rfl
theorem Ziy (x0:ZaT):Zao Tryz.prog 3 [.ag (cellsOf Zbm x0)] (.c (.bool true)) []:=by
 refine bc0 [Zxd,Zxr,ZF5,ZF2,ZyJ,ZG7,Zr4,Zwn] [] [] [Zsa,Zww] L0 Tryz.func3 (fun hwf=>?_)
 refine Eq.mpr (β:=T5 (pt (szP 1048576)∧T3 (bif ltI (szT 1048576 (bulk x0)) 0 then True∧rB true true else True∧pt (ZdQ x0)∧(ZfA x0∧pt (true=true))∧T7 (pt (ZdQ x0)∧T3 ((ZfA x0∧pt (true=true))∧T8 ((True∧pt (true=true))∧T2 (bif !(Zc7 (Za0 x0) (Za0 x0)) then T2 (rB false true) else T2 ((True∧pt (true=true))∧T2 (bif !(ZeT (Zcl x0) (Zcl x0)) then True∧rB false true else pt (true=true)∧T2 (pt (ZdQ x0)∧(True∧pt (true=true))∧True∧bif !(Zc7 x0 x0) then True∧rB false true else T3 (pt (Zev x0 1∧(x0.1.1=x0.1.1∧x0.1.2.1=x0.1.2.1∧cI x0.1.2.2 x0.1.2.2∧x0.2=x0.2∧True)∧True)∧∀ r0:List ZaO,r0=(ZbD x0 1).1.1→∀ r1:List ZaA,r1=(ZbD x0 1).1.2.1→∀ r2:List Zad,r2=(ZbD x0 1).2→T4 (bif ltI (Zb7 x0 1) 0 then T4 (rB false true) else T2 ((True∧pt (true=true))∧T3 (bif !(Zc7 (Za0 x0) (Za0 x0)) then T2 (rB false true) else T2 ((True∧pt (true=true))∧T2 (bif !(ZeT (Zcl x0) (Zcl x0)) then True∧rB false true else T3 (pt (Zev (Za0 x0) 1∧((Za0 x0).1.1=(Za0 x0).1.1∧(Za0 x0).1.2.1=(Za0 x0).1.2.1∧cI (Za0 x0).1.2.2 (Za0 x0).1.2.2∧(Za0 x0).2=(Za0 x0).2∧True)∧True)∧∀ r3:List ZaO,r3=(ZbD (Za0 x0) 1).1.1→∀ r4:List ZaA,r4=(ZbD (Za0 x0) 1).1.2.1→∀ r5:List Zad,r5=(ZbD (Za0 x0) 1).2→T3 (pt (ZhR (Zcl x0) (Zb7 (Za0 x0) 1)∧(Zcl x0)=Zcl x0∧True)∧∀ r6:List Int,r6=Zdn (Zcl x0) (Zb7 (Za0 x0) 1)→T4 ((Zeu ((r3,r4,(Za0 x0).1.2.2),r5) 1∧pt (true=true))∧T3 (bif ltI (Zbl ((r3,r4,(Za0 x0).1.2.2),r5) 1) 0 then True∧rB false true else T2 ((Zfq r6 (Zbl ((r3,r4,(Za0 x0).1.2.2),r5) 1)∧pt (true=true))∧T3 (bif ltI (Zbh r6 (Zbl ((r3,r4,(Za0 x0).1.2.2),r5) 1)) 0 then True∧rB false true else T3 (bif neI (Zbh r6 (Zbl ((r3,r4,(Za0 x0).1.2.2),r5) 1)) (Zam (Zcl x0) (Zb7 (Za0 x0) 1)) then True∧rB false true else True∧pt (ZdQ x0)∧(ZfA x0∧pt (true=true))∧T8 ((True∧pt (true=true))∧T2 (bif !(Zc7 (Za0 x0) (Za0 x0)) then T2 (rB false true) else T2 ((True∧pt (true=true))∧T2 (bif !(ZeT (Zcl x0) (Zcl x0)) then True∧rB false true else T3 ((Zeu ((r3,r4,(Za0 x0).1.2.2),r5) 1∧pt (true=true))∧T3 (bif ltI (Zbl ((r3,r4,(Za0 x0).1.2.2),r5) 1) 0 then True∧rB false true else T2 ((Zfq r6 (Zbl ((r3,r4,(Za0 x0).1.2.2),r5) 1)∧pt (true=true))∧T3 (bif ltI (Zbh r6 (Zbl ((r3,r4,(Za0 x0).1.2.2),r5) 1)) 0 then True∧rB false true else T3 (bif neI (Zbh r6 (Zbl ((r3,r4,(Za0 x0).1.2.2),r5) 1)) (Zam (Zcl x0) (Zb7 (Za0 x0) 1)) then True∧rB false true else True∧rB true true)))))))))))))))))))))))))))))))) (by kernel_rfl) ?_
 unfold T2 T3 T4 T5 T7 T8
 have hz_x0:=Za8 1048576 (bulk x0)
 have hb_x0:cntI x0≤(36) * (1 + bulk x0):=ZrK.h2 x0
 have hN0:cntI (Za0 x0)≤cntI x0 + 300:=ZFP x0
 have hN1:cntL (Zcl x0)≤bulk x0:=ZCH x0
 simp only [forall_eq,ZvZ,ZEe,Zb7,ZbD,Zam,Zdn,Zbl,Zbh,not_true,not_false,false_implies,true_implies,Bool.not_true,Bool.not_false,SIA,eq_self]
 generalize hc0:Za0 x0=c0 at hN0 ⊢
 have hm0:cntI (mrkI c0 1)=cntI c0:=ZnF.c2 c0 1
 have hT0:((((mrkI c0 1).1.1,((mrkI c0 1).1.2.1,c0.1.2.2)),(mrkI c0 1).2))=mrkI c0 1:=rfl
 simp only [hT0,hm0]
 have hI0:mrkI (mrkI c0 1) 1=mrkI c0 1:=ZnF.i2 c0 1
 generalize hc1:Zcl x0=c1 at hN1 ⊢
 have hm1:∀ k,cntL (markL c1 k)=cntL c1:=fun k=>ZnF.c2 c1 k
 simp only [hm1]
 have hI1:∀ k,markL (markL c1 k) k=markL c1 k:=fun k=>ZnF.i2 c1 k
 repeat' (with_reducible first | exact trivial | apply And.intro | intro _)
 all_goals first
  | (with_reducible trivial)
  | omega
  | (with_reducible exact hI0)
  | (with_reducible (rw [hm0]; omega))
  | (with_reducible exact hI1 _)
  | (with_reducible (rw [hm1]; omega))
  | contradiction
  | (with_reducible (show bulk x0≤1048576); omega)
  | exact ZCL (by omega)
def ZHj:ZaE Tryz.prog:=⟨3,[.s Zbm],fun x=>True,fun x=>.c (.bool true),fun _=>[],fun x hx=>Ziy x.1,Tryz.call3⟩
theorem Zm1 (w:World) (hgl:Zko w []) (x0:ZaT) (cx0:List Value) (hx0:ZLZ w x0 cx0):Calls Tryz.prog 3 #[.agg cx0.toArray] w (RV (.bool (true)) w) :=
 RV.of_b (Ziy x0) hgl (⟨_,_,rfl,ZI6 Zbm hx0,rfl⟩) (fun _ _ _ h=>h)
end Go.Proofs.YtafhbjjcpncfnaaGreat
