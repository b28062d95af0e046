import Derived.Test.YtkompmgleojmlaaGreatHBlAdm
set_option linter.unusedSimpArgs false
set_option linter.unusedVariables false
set_option maxRecDepth 100000
set_option maxHeartbeats 4000000
namespace Go.Proofs.YtkompmgleojmlaaGreat
open Go.ChangeShapes Go.WideShapes Go.ChangeAt Go.RowKit Go.Joins Go.Deep
open GoRep (rep bulk)
def ZFL (m:Zax):Int:=if m.1=5 then m.2.2.1 else 0
def Ze5 (m:Zax) (n:Int):ZaO:=(1,n,ZFL m,(⟨#[]⟩:ByteArray))
theorem ZBZ (m:Zax) (n:Int):Zam Tryz.prog 110 [.ag (cellsOf Zag m), .c (.int .i64 n)] (.ag [.int .i64 (Ze5 m n).1, .int .i64 (Ze5 m n).2.1, .int .i64 (Ze5 m n).2.2.1, .str (Ze5 m n).2.2.2]) []:=by
 refine bc0 [] [] [] [] L0 Tryz.func110 (fun hwf=>?_)
 refine Eq.mpr (β:=T9 (bif eqI m.1 5 then T6 (pt ((cI 1 (Ze5 m n).1∧cI n (Ze5 m n).2.1∧cI m.2.2.1 (Ze5 m n).2.2.1∧cS (⟨#[]⟩:ByteArray) (Ze5 m n).2.2.2∧True))) else T2 (pt ((cI 1 (Ze5 m n).1∧cI n (Ze5 m n).2.1∧cI 0 (Ze5 m n).2.2.1∧cS (⟨#[]⟩:ByteArray) (Ze5 m n).2.2.2∧True))))) (by kernel_rfl) ?_
 unfold T2 T6 T9
 simp only [Zbe,Zbl,Zbt,Bool.not_true,Bool.not_false,Zdq,eq_self]
 repeat' (first | apply And.intro | intro _)
 all_goals first
  | trivial
  | omega
  | contradiction
  | exact ⟨rfl,rfl⟩
  | (show _ + 1≤rowMax; unfold rowMax; omega)
  | (simp only [Ze5,ZFL, *,eq_self,if_true,if_false,and_true,true_and,and_self,not_true,not_false,false_and,and_false,or_true,true_or,or_false,false_or,or_self,Bool.false_eq_true,reduceCtorEq,reduceIte,Int.reduceEq,not_false_eq_true,not_true_eq_false,ite_true,ite_false,Bool.and_true,Bool.true_and,Bool.and_false,Bool.false_and,Bool.or_true,Bool.true_or,Bool.or_false,Bool.false_or,Bool.not_true,Bool.not_false]; done)
  | (simp_all [Ze5,ZFL,eqI,neI,geI,eqS]; done)
def ZB0:ZaC Tryz.prog:=⟨110,[.s Zag, .v Zaz],fun x=>True,fun x=>.ag [.int .i64 (Ze5 x.1 x.2.1).1, .int .i64 (Ze5 x.1 x.2.1).2.1, .int .i64 (Ze5 x.1 x.2.1).2.2.1, .str (Ze5 x.1 x.2.1).2.2.2],fun _=>[],fun x hx=>ZBZ x.1 x.2.1,Tryz.call110⟩
theorem ZFM (m:Zax):Zam Tryz.prog 85 [.ag (cellsOf Zag m)] (.c (.int .i64 (ZFL m))) []:=by
 refine bc0 [] [] [] [] L0 Tryz.func85 (fun hwf=>?_)
 refine Eq.mpr (β:=T5 (bif eqI m.1 5 then T3 (rI m.2.2.1 (ZFL m)) else True∧rI 0 (ZFL m))) (by kernel_rfl) ?_
 simp only [Zbe,Zbl,Zbt,Bool.not_true,Bool.not_false,Zdq,eq_self]
 repeat' (first | apply And.intro | intro _)
 all_goals first
  | trivial
  | omega
  | contradiction
  | exact ⟨rfl,rfl⟩
  | (show _ + 1≤rowMax; unfold rowMax; omega)
  | (simp only [ZFL, *,eq_self,if_true,if_false,and_true,true_and,and_self,not_true,not_false,false_and,and_false,or_true,true_or,or_false,false_or,or_self,Bool.false_eq_true,reduceCtorEq,reduceIte,Int.reduceEq,not_false_eq_true,not_true_eq_false,ite_true,ite_false,Bool.and_true,Bool.true_and,Bool.and_false,Bool.false_and,Bool.or_true,Bool.true_or,Bool.or_false,Bool.false_or,Bool.not_true,Bool.not_false]; done)
  | (simp_all [ZFL,eqI,neI,geI,eqS]; done)
def ZFN:ZaC Tryz.prog:=⟨85,[.s Zag],fun x=>True,fun x=>.c (.int .i64 (ZFL x.1)),fun _=>[],fun x hx=>ZFM x.1,Tryz.call85⟩
end Go.Proofs.YtkompmgleojmlaaGreat
