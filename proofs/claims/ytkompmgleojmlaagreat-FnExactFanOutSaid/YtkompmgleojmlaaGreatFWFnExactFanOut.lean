import Derived.Test.YtkompmgleojmlaaGreatFBlSz
import Derived.Test.YtkompmgleojmlaaGreatFBlTo
import Derived.Test.YtkompmgleojmlaaGreatFBlMkS
import Derived.Test.YtkompmgleojmlaaGreatFBlHdS
import Derived.Test.YtkompmgleojmlaaGreatFEqB
import Derived.Test.YtkompmgleojmlaaGreatFBlSmall
set_option linter.unusedSimpArgs false
set_option linter.unusedVariables false
set_option maxRecDepth 100000
set_option maxHeartbeats 4000000
namespace Go.Proofs.YtkompmgleojmlaaGreat
open Go.ChangeShapes Go.WideShapes Go.ChangeAt Go.RowKit Go.Joins Go.Deep
open GoRep (rep bulk)
open GoMark (mrk cnt mrkI cntI)
theorem Zs7 (x:Za6):Zcz x x=true:=Zf9.2 rfl
theorem ZhH (x0:Za6) (x1:Int):Zat Tryz.prog 4 [.ag (cellsOf Zbp x0), .c (.int .i64 x1)] (.c (.bool true)) []:=by
  refine bc0 [Zud,Zum,ZBn,ZBk,Zvz,Zp4] [] [] [Zqa] L0 Tryz.func4 (fun hwf=>?_)
  refine Eq.mpr (β:=(T5 ((pt (szP 1048576))∧(T3 (bif (ltI (szT 1048576 (bulk x0)) 0) then (True∧(rB true true)) else (True∧((pt (Zdd x0))∧(True∧((Zc8 x0∧pt (true=true))∧(T3 ((pt (Zdd x0))∧(T4 ((Zc8 x0∧pt (true=true))∧(T4 ((True∧pt (true=true))∧(True∧(bif (!(Zcz (ZdH x0 x1) (ZdH x0 x1))) then (True∧(rB false true)) else ((pt (true=true))∧(T2 ((pt (Zdd x0))∧((True∧pt (true=true))∧(True∧(bif (!(Zcz x0 x0)) then (True∧(rB false true)) else (T3 ((pt (ZdJ x0 1∧((((x0.1.1=x0.1.1)∧(x0.1.2.1=x0.1.2.1)∧(cI x0.1.2.2 x0.1.2.2)∧(x0.2=x0.2)∧True))∧True)))∧∀ r0:List ZaM,r0=(Zbi x0 1).1.1→∀ r1:List Zax,r1=(Zbi x0 1).1.2.1→∀ r2:List Zal,r2=(Zbi x0 1).2→(T4 (bif (ltI (ZbZ x0 1) 0) then (T2 (rB false true)) else (T2 ((True∧pt (true=true))∧(T2 (bif (!(Zcz (ZdH x0 x1) (ZdH x0 x1))) then (True∧(rB false true)) else (T3 ((pt (ZdJ (ZdH x0 x1) 1∧(((((ZdH x0 x1).1.1=(ZdH x0 x1).1.1)∧((ZdH x0 x1).1.2.1=(ZdH x0 x1).1.2.1)∧(cI (ZdH x0 x1).1.2.2 (ZdH x0 x1).1.2.2)∧((ZdH x0 x1).2=(ZdH x0 x1).2)∧True))∧True)))∧∀ r3:List ZaM,r3=(Zbi (ZdH x0 x1) 1).1.1→∀ r4:List Zax,r4=(Zbi (ZdH x0 x1) 1).1.2.1→∀ r5:List Zal,r5=(Zbi (ZdH x0 x1) 1).2→(T4 ((ZdI ((r3,(r4,(ZdH x0 x1).1.2.2)),r5) 1∧pt (true=true))∧(T3 (bif (ltI (Zby ((r3,(r4,(ZdH x0 x1).1.2.2)),r5) 1) 0) then (True∧(rB false true)) else (T3 (bif (neI (Zby ((r3,(r4,(ZdH x0 x1).1.2.2)),r5) 1) (ZbZ (ZdH x0 x1) 1)) then (True∧(rB false true)) else (True∧((pt (Zdd x0))∧(True∧((Zc8 x0∧pt (true=true))∧(T4 ((True∧pt (true=true))∧(True∧(bif (!(Zcz (ZdH x0 x1) (ZdH x0 x1))) then (True∧(rB false true)) else (T3 ((ZdI ((r3,(r4,(ZdH x0 x1).1.2.2)),r5) 1∧pt (true=true))∧(T3 (bif (ltI (Zby ((r3,(r4,(ZdH x0 x1).1.2.2)),r5) 1) 0) then (True∧(rB false true)) else (T3 (bif (neI (Zby ((r3,(r4,(ZdH x0 x1).1.2.2)),r5) 1) (ZbZ (ZdH x0 x1) 1)) then (True∧(rB false true)) else (True∧(rB true true))))))))))))))))))))))))))))))))))))))))))))))))))))))) (by kernel_rfl) ?_
  unfold T2 T3 T4 T5
  have hz_x0:=ZaW 1048576 (bulk x0)
  have hb_x0:cntI x0≤(36) * (1 + bulk x0):=ZpJ.h2 x0
  have hN0:bulk x0≤1048576→cntI (ZdH x0 x1)≤cntI x0 + 4398046511104:=fun h=>by
    have h1:=ZFJ (Zks h) x1
    have h2:=(Zks h).2.1
    omega
  simp only [forall_eq,Zs7,ZbZ,Zbi,Zby,not_true,not_false,false_implies,true_implies,Bool.not_true,Bool.not_false,SIA,eq_self]
  generalize hc0:ZdH x0 x1=c0 at hN0 ⊢
  have hm0:cntI (mrkI c0 1)=cntI c0:=Zm8.c2 c0 1
  have hT0:((((mrkI c0 1).1.1,((mrkI c0 1).1.2.1,c0.1.2.2)),(mrkI c0 1).2))=mrkI c0 1:=rfl
  simp only [hT0,hm0]
  have hI0:mrkI (mrkI c0 1) 1=mrkI c0 1:=Zm8.i2 c0 1
  repeat' (with_reducible first | exact trivial | apply And.intro | intro _)
  all_goals first
    | (with_reducible trivial)
    | omega
    | (with_reducible exact hI0)
    | (with_reducible (rw [hm0]; omega))
    | contradiction
    | (with_reducible (show bulk x0≤1048576); omega)
    | exact Zks (by omega)
def ZCU:ZaI Tryz.prog:=⟨4,[.s Zbp, .v ZaC],fun x=>True,fun x=>.c (.bool true),fun _=>[],fun x hx=>ZhH x.1 x.2.1,Tryz.call4⟩
theorem ZlJ (w:World) (hgl:Zlf w []) (x0:Za6) (cx0:List Value) (hx0:ZHt w x0 cx0) (x1:Int) (hx1:I64 x1):Calls Tryz.prog 4 #[.agg cx0.toArray, .int .i64 x1] w (RV (.bool (true)) w) :=
  RV.of_b (ZhH x0 x1) hgl (⟨_,_,rfl,ZEt Zbp hx0,⟨_,_,rfl,⟨rfl,hx1⟩,rfl⟩⟩) (fun _ _ _ h=>h)
end Go.Proofs.YtkompmgleojmlaaGreat
