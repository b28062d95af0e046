import Derived.Test.YtkompmgleojmlaaGreatDBlSz
import Derived.Test.YtkompmgleojmlaaGreatDBlTo
import Derived.Test.YtkompmgleojmlaaGreatDEqB
import Derived.Test.YtkompmgleojmlaaGreatDBlSmW
set_option linter.unusedSimpArgs false
set_option linter.unusedVariables false
set_option maxRecDepth 100000
set_option maxHeartbeats 4000000
namespace Go.Proofs.YtkompmgleojmlaaGreat
open Go.ChangeShapes Go.WideShapes Go.ChangeAt Go.RowKit Go.Joins Go.Deep
open GoRep (rep bulk)
open GoMark (mrk cnt mrkI cntI)
theorem Zsv (x:Zbg):Zdb x x=true:=Zfn.2 rfl
theorem ZfF (x0:Zbg):Zai Tryz.prog 3 [.ag (cellsOf ZbP x0)] (.c (.bool true)) []:=by
  refine bc0 [Ztn,Ztw,ZsZ,ZsW,ZuN] [] [] [] L0 Tryz.func3 (fun hwf=>?_)
  refine Eq.mpr (β:=(T5 ((pt (szP 1048576))∧(T3 (bif (ltI (szT 1048576 (bulk x0)) 0) then (True∧(rB true true)) else (True∧((pt (Zdg x0))∧((ZlB x0∧pt (true=true))∧(T2 ((pt (Zdg x0))∧(T3 ((ZlB x0∧pt (true=true))∧(T3 (some TypeDesc.bool=some TypeDesc.bool∧(bif (!eqO (Zbp x0) (Zbp x0)) then (True∧(rB false true)) else ((pt (true=true))∧(T2 ((pt (Zdg x0))∧((True∧pt (true=true))∧(True∧(bif (!(Zdb x0 x0)) then (True∧(rB false true)) else (True∧(rB true true))))))))))))))))))))))) (by kernel_rfl) ?_
  unfold T2 T3 T5
  have hz_x0:=ZaI 1048576 (bulk x0)
  have hb_x0:cntI x0≤(36) * (1 + bulk x0):=Zo3.h2 x0
  simp only [forall_eq,Zsv,not_true,not_false,false_implies,true_implies,Bool.not_true,Bool.not_false,SIA,eq_self]
  repeat' (with_reducible first | exact trivial | apply And.intro | intro _)
  all_goals first
    | (with_reducible trivial)
    | omega
    | contradiction
    | (with_reducible (show bulk x0≤1048576); omega)
    | exact Zyl (by omega)
def ZzK:Zat Tryz.prog:=⟨3,[.s ZbP],fun x=>True,fun x=>.c (.bool true),fun _=>[],fun x hx=>ZfF x.1,Tryz.call3⟩
theorem ZiW (w:World) (hgl:Zjd w []) (x0:Zbg) (cx0:List Value) (hx0:ZG7 w x0 cx0):Calls Tryz.prog 3 #[.agg cx0.toArray] w (RV (.bool (true)) w) :=
  RV.of_b (ZfF x0) hgl (⟨_,_,rfl,ZD4 ZbP hx0,rfl⟩) (fun _ _ _ h=>h)
end Go.Proofs.YtkompmgleojmlaaGreat
