import Derived.Test.YtafhbjjcpncfnaaGreatIBlAdm
set_option linter.unusedSimpArgs false
set_option linter.unusedVariables false
set_option maxRecDepth 100000
set_option maxHeartbeats 4000000
namespace Go.Proofs.YtafhbjjcpncfnaaGreat
open Go.ChangeShapes Go.WideShapes Go.ChangeAt Go.RowKit Go.Joins Go.Deep
open GoRep (rep bulk)
def ZFq (m:ZaA):Int:=if m.1=5 then m.2.2.1 else 0
def Ze8 (m:ZaA) (n:Int):ZaM:=(1,n,ZFq m,(⟨#[]⟩:ByteArray))
theorem ZBP (m:ZaA) (n:Int):Zao Tryz.prog 128 [.ag (cellsOf Zag m), .c (.int .i64 n)] (.ag [.int .i64 (Ze8 m n).1, .int .i64 (Ze8 m n).2.1, .int .i64 (Ze8 m n).2.2.1, .str (Ze8 m n).2.2.2]) []:=by
 refine bc0 [] [] [] [] L0 Tryz.func128 (fun hwf=>?_)
 refine Eq.mpr (β:=T9 (bif eqI m.1 5 then T6 (pt ((cI 1 (Ze8 m n).1∧cI n (Ze8 m n).2.1∧cI m.2.2.1 (Ze8 m n).2.2.1∧cS (⟨#[]⟩:ByteArray) (Ze8 m n).2.2.2∧True))) else T2 (pt ((cI 1 (Ze8 m n).1∧cI n (Ze8 m n).2.1∧cI 0 (Ze8 m n).2.2.1∧cS (⟨#[]⟩:ByteArray) (Ze8 m n).2.2.2∧True))))) (by kernel_rfl) ?_
 unfold T2 T6 T9
 simp only [Zbu,ZbS,Zbn,Bool.not_true,Bool.not_false,Zeg,eq_self]
 repeat' (first | apply And.intro | intro _)
 all_goals first
  | trivial
  | omega
  | contradiction
  | exact ⟨rfl,rfl⟩
  | (show _ + 1≤rowMax; unfold rowMax; omega)
  | (simp only [Ze8,ZFq, *,eq_self,if_true,if_false,and_true,true_and,and_self,not_true,not_false,false_and,and_false,or_true,true_or,or_false,false_or,or_self,Bool.false_eq_true,reduceCtorEq,reduceIte,Int.reduceEq,not_false_eq_true,not_true_eq_false,ite_true,ite_false,Bool.and_true,Bool.true_and,Bool.and_false,Bool.false_and,Bool.or_true,Bool.true_or,Bool.or_false,Bool.false_or,Bool.not_true,Bool.not_false]; done)
  | (simp_all [Ze8,ZFq,eqI,neI,geI,eqS]; done)
def ZBQ:ZaE Tryz.prog:=⟨128,[.s Zag, .v Zax],fun x=>True,fun x=>.ag [.int .i64 (Ze8 x.1 x.2.1).1, .int .i64 (Ze8 x.1 x.2.1).2.1, .int .i64 (Ze8 x.1 x.2.1).2.2.1, .str (Ze8 x.1 x.2.1).2.2.2],fun _=>[],fun x hx=>ZBP x.1 x.2.1,Tryz.call128⟩
theorem ZFr (m:ZaA):Zao Tryz.prog 94 [.ag (cellsOf Zag m)] (.c (.int .i64 (ZFq m))) []:=by
 refine bc0 [] [] [] [] L0 Tryz.func94 (fun hwf=>?_)
 refine Eq.mpr (β:=T5 (bif eqI m.1 5 then T3 (rI m.2.2.1 (ZFq m)) else True∧rI 0 (ZFq m))) (by kernel_rfl) ?_
 simp only [Zbu,ZbS,Zbn,Bool.not_true,Bool.not_false,Zeg,eq_self]
 repeat' (first | apply And.intro | intro _)
 all_goals first
  | trivial
  | omega
  | contradiction
  | exact ⟨rfl,rfl⟩
  | (show _ + 1≤rowMax; unfold rowMax; omega)
  | (simp only [ZFq, *,eq_self,if_true,if_false,and_true,true_and,and_self,not_true,not_false,false_and,and_false,or_true,true_or,or_false,false_or,or_self,Bool.false_eq_true,reduceCtorEq,reduceIte,Int.reduceEq,not_false_eq_true,not_true_eq_false,ite_true,ite_false,Bool.and_true,Bool.true_and,Bool.and_false,Bool.false_and,Bool.or_true,Bool.true_or,Bool.or_false,Bool.false_or,Bool.not_true,Bool.not_false]; done)
  | (simp_all [ZFq,eqI,neI,geI,eqS]; done)
def ZFs:ZaE Tryz.prog:=⟨94,[.s Zag],fun x=>True,fun x=>.c (.int .i64 (ZFq x.1)),fun _=>[],fun x hx=>ZFr x.1,Tryz.call94⟩
end Go.Proofs.YtafhbjjcpncfnaaGreat
