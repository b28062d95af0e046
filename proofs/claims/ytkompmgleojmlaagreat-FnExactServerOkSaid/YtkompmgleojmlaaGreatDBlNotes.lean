import Derived.Test.YtkompmgleojmlaaGreatDBlAdm
set_option linter.unusedSimpArgs false
set_option linter.unusedVariables false
set_option maxRecDepth 100000
set_option maxHeartbeats 4000000
namespace Go.Proofs.YtkompmgleojmlaaGreat
open Go.ChangeShapes Go.WideShapes Go.ChangeAt Go.RowKit Go.Joins Go.Deep
open GoRep (rep bulk)
def ZAQ (m:Zam):Int:=if m.1=5 then m.2.2.1 else 0
def ZdR (m:Zam) (n:Int):Zaz:=(1,n,ZAQ m,(⟨#[]⟩:ByteArray))
theorem Zxt (m:Zam) (n:Int):Zai Tryz.prog 110 [.ag (cellsOf Zae m), .c (.int .i64 n)] (.ag [.int .i64 (ZdR m n).1, .int .i64 (ZdR m n).2.1, .int .i64 (ZdR m n).2.2.1, .str (ZdR m n).2.2.2]) []:=by
  refine bc0 [] [] [] [] L0 Tryz.func110 (fun hwf=>?_)
  refine Eq.mpr (β:=(T9 (bif (eqI m.1 5) then (T6 (pt (((cI 1 (ZdR m n).1)∧(cI n (ZdR m n).2.1)∧(cI m.2.2.1 (ZdR m n).2.2.1)∧(cS (⟨#[]⟩:ByteArray) (ZdR m n).2.2.2)∧True)))) else (T2 (pt (((cI 1 (ZdR m n).1)∧(cI n (ZdR m n).2.1)∧(cI 0 (ZdR m n).2.2.1)∧(cS (⟨#[]⟩:ByteArray) (ZdR m n).2.2.2)∧True))))))) (by kernel_rfl) ?_
  unfold T2 T6 T9
  simp only [Zbd,Zbs,ZaY,Bool.not_true,Bool.not_false,Zdy,eq_self]
  repeat' (first | apply And.intro | intro _)
  all_goals first
    | trivial
    | omega
    | contradiction
    | exact ⟨rfl,rfl⟩
    | (show _ + 1≤rowMax; unfold rowMax; omega)
    | (simp only [ZdR,ZAQ, *,eq_self,if_true,if_false,and_true,true_and,and_self,not_true,not_false,false_and,and_false,or_true,true_or,or_false,false_or,or_self,Bool.false_eq_true,reduceCtorEq,reduceIte,Int.reduceEq,not_false_eq_true,not_true_eq_false,ite_true,ite_false,Bool.and_true,Bool.true_and,Bool.and_false,Bool.false_and,Bool.or_true,Bool.true_or,Bool.or_false,Bool.false_or,Bool.not_true,Bool.not_false]; done)
    | (simp_all [ZdR,ZAQ,eqI,neI,geI,eqS]; done)
def Zxu:Zat Tryz.prog:=⟨110,[.s Zae, .v ZaC],fun x=>True,fun x=>.ag [.int .i64 (ZdR x.1 x.2.1).1, .int .i64 (ZdR x.1 x.2.1).2.1, .int .i64 (ZdR x.1 x.2.1).2.2.1, .str (ZdR x.1 x.2.1).2.2.2],fun _=>[],fun x hx=>Zxt x.1 x.2.1,Tryz.call110⟩
theorem ZAR (m:Zam):Zai Tryz.prog 85 [.ag (cellsOf Zae m)] (.c (.int .i64 (ZAQ m))) []:=by
  refine bc0 [] [] [] [] L0 Tryz.func85 (fun hwf=>?_)
  refine Eq.mpr (β:=(T5 (bif (eqI m.1 5) then (T3 (rI m.2.2.1 (ZAQ m))) else (True∧(rI 0 (ZAQ m)))))) (by kernel_rfl) ?_
  simp only [Zbd,Zbs,ZaY,Bool.not_true,Bool.not_false,Zdy,eq_self]
  repeat' (first | apply And.intro | intro _)
  all_goals first
    | trivial
    | omega
    | contradiction
    | exact ⟨rfl,rfl⟩
    | (show _ + 1≤rowMax; unfold rowMax; omega)
    | (simp only [ZAQ, *,eq_self,if_true,if_false,and_true,true_and,and_self,not_true,not_false,false_and,and_false,or_true,true_or,or_false,false_or,or_self,Bool.false_eq_true,reduceCtorEq,reduceIte,Int.reduceEq,not_false_eq_true,not_true_eq_false,ite_true,ite_false,Bool.and_true,Bool.true_and,Bool.and_false,Bool.false_and,Bool.or_true,Bool.true_or,Bool.or_false,Bool.false_or,Bool.not_true,Bool.not_false]; done)
    | (simp_all [ZAQ,eqI,neI,geI,eqS]; done)
def ZAS:Zat Tryz.prog:=⟨85,[.s Zae],fun x=>True,fun x=>.c (.int .i64 (ZAQ x.1)),fun _=>[],fun x hx=>ZAR x.1,Tryz.call85⟩
end Go.Proofs.YtkompmgleojmlaaGreat
