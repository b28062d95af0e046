import Derived.Test.YtkompmgleojmlaaGreatHBlSz
import Derived.Test.YtkompmgleojmlaaGreatHBlTo
import Derived.Test.YtkompmgleojmlaaGreatHBlMkS
import Derived.Test.YtkompmgleojmlaaGreatHBlHdS
import Derived.Test.YtkompmgleojmlaaGreatHEqB
import Derived.Test.YtkompmgleojmlaaGreatHBlTake
import Derived.Test.YtkompmgleojmlaaGreatHBlSmD
set_option linter.unusedSimpArgs false
set_option linter.unusedVariables false
set_option maxRecDepth 100000
set_option maxHeartbeats 4000000
namespace Go.Proofs.YtkompmgleojmlaaGreat
open Go.ChangeShapes Go.WideShapes Go.ChangeAt Go.RowKit Go.Joins Go.Deep
open GoRep (rep bulk)
open GoMark (mrk cnt mrkI cntI)
theorem ZeY (x:ZaE):ZbV x x=true:=Zd9.2 rfl
theorem Zjj (x0:ZaE) (x1:Int) (x2:Int):Zam Tryz.prog 7 [.ag (cellsOf ZaV x0), .c (.int .i64 x1), .c (.int .i64 x2)] (.c (.bool true)) []:=by
 refine bc0 [ZjG,ZjK,ZIB,ZIz,Zkf,ZhQ] [] [] [ZhT] L0 Tryz.func7 (fun hwf=>?_)
 refine Eq.mpr (β:=T5 (pt (szP 1048576)∧T3 (bif ltI (szT 1048576 (bulk x0)) 0 then True∧rB true true else True∧pt (ZbR x0)∧T2 ((ZcD x0∧pt (true=true))∧T7 (pt (ZbR x0)∧T5 ((ZcD x0∧pt (true=true))∧T8 ((True∧pt (true=true))∧T2 (bif !(ZbV (Zbn x0 x1 x2) (Zbn x0 x1 x2)) then T2 (rB false true) else T4 (bif neI (Ze7 x0 x1 x2) (Ze7 x0 x1 x2) then True∧rB false true else pt (true=true)∧T2 (pt (ZbR x0)∧(True∧pt (true=true))∧True∧bif !(ZbV x0 x0) then True∧rB false true else T3 (pt (Zcm x0 1∧(x0.1.1=x0.1.1∧x0.1.2.1=x0.1.2.1∧cI x0.1.2.2 x0.1.2.2∧x0.2=x0.2∧True)∧True)∧∀ r0:List ZaM,r0=(ZaS x0 1).1.1→∀ r1:List Zax,r1=(ZaS x0 1).1.2.1→∀ r2:List Zad,r2=(ZaS x0 1).2→T4 (bif ltI (Zbi x0 1) 0 then T4 (rB false true) else T2 ((True∧pt (true=true))∧T3 (bif !(ZbV (Zbn x0 x1 x2) (Zbn x0 x1 x2)) then T2 (rB false true) else T4 (bif neI (Ze7 x0 x1 x2) (Ze7 x0 x1 x2) then True∧rB false true else T3 (pt (Zcm (Zbn x0 x1 x2) 1∧((Zbn x0 x1 x2).1.1=(Zbn x0 x1 x2).1.1∧(Zbn x0 x1 x2).1.2.1=(Zbn x0 x1 x2).1.2.1∧cI (Zbn x0 x1 x2).1.2.2 (Zbn x0 x1 x2).1.2.2∧(Zbn x0 x1 x2).2=(Zbn x0 x1 x2).2∧True)∧True)∧∀ r3:List ZaM,r3=(ZaS (Zbn x0 x1 x2) 1).1.1→∀ r4:List Zax,r4=(ZaS (Zbn x0 x1 x2) 1).1.2.1→∀ r5:List Zad,r5=(ZaS (Zbn x0 x1 x2) 1).2→T4 ((Zcl ((r3,r4,(Zbn x0 x1 x2).1.2.2),r5) 1∧pt (true=true))∧T3 (bif ltI (Za4 ((r3,r4,(Zbn x0 x1 x2).1.2.2),r5) 1) 0 then True∧rB false true else T3 (bif neI (Za4 ((r3,r4,(Zbn x0 x1 x2).1.2.2),r5) 1) (Zbi (Zbn x0 x1 x2) 1) then True∧rB false true else True∧pt (ZbR x0)∧T2 ((ZcD x0∧pt (true=true))∧T8 ((True∧pt (true=true))∧T2 (bif !(ZbV (Zbn x0 x1 x2) (Zbn x0 x1 x2)) then T2 (rB false true) else T4 (bif neI (Ze7 x0 x1 x2) (Ze7 x0 x1 x2) then True∧rB false true else T3 ((Zcl ((r3,r4,(Zbn x0 x1 x2).1.2.2),r5) 1∧pt (true=true))∧T3 (bif ltI (Za4 ((r3,r4,(Zbn x0 x1 x2).1.2.2),r5) 1) 0 then True∧rB false true else T3 (bif neI (Za4 ((r3,r4,(Zbn x0 x1 x2).1.2.2),r5) 1) (Zbi (Zbn x0 x1 x2) 1) then True∧rB false true else True∧rB true true)))))))))))))))))))))))))) (by kernel_rfl) ?_
 unfold T2 T3 T4 T5 T7 T8
 have hz_x0:=Za8 1048576 (bulk x0)
 have hb_x0:cntI x0≤(36) * (1 + bulk x0):=Zo2.h2 x0
 have hN0:cntI (Zbn x0 x1 x2)≤cntI x0 + 100:=ZIn x0 x1 x2
 simp only [forall_eq,ZeY,Zbi,ZaS,Za4,not_true,not_false,false_implies,true_implies,Bool.not_true,Bool.not_false,SIA,eq_self]
 generalize hc0:Zbn x0 x1 x2=c0 at hN0 ⊢
 exact Zrz
def ZHE:ZaC Tryz.prog:=⟨7,[.s ZaV, .v Zaz, .v Zaz],fun x=>True,fun x=>.c (.bool true),fun _=>[],fun x hx=>Zjj x.1 x.2.1 x.2.2.1,Tryz.call7⟩
theorem ZnJ (w:World) (hgl:Zjp w []) (x0:ZaE) (cx0:List Value) (hx0:ZKm w x0 cx0) (x1:Int) (hx1:I64 x1) (x2:Int) (hx2:I64 x2):Calls Tryz.prog 7 #[.agg cx0.toArray, .int .i64 x1, .int .i64 x2] w (RV (.bool (true)) w) :=
 RV.of_b (Zjj x0 x1 x2) hgl (⟨_,_,rfl,ZqA ZaV hx0,⟨_,_,rfl,⟨rfl,hx1⟩,⟨_,_,rfl,⟨rfl,hx2⟩,rfl⟩⟩⟩) (fun _ _ _ h=>h)
end Go.Proofs.YtkompmgleojmlaaGreat
