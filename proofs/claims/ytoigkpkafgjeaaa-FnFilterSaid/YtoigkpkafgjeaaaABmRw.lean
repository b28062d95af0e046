/-
  What a row holds, for a loop's head.
  Plain: no program. No condition.
-/
import Derived.Test.YtoigkpkafgjeaaaABmTy
namespace Go.Proofs.Ytoigkpkafgjeaaa
open Go.ChangeShapes Go.WideShapes Go.ChangeAt Go.RowKit Go.Joins Go.Deep
def rwL (t : Ty) (M : Mem) (i : Nat) : List t.den := match M[i]? with | some (.row t' xs _ _ _) => if h : t' = t then h ▸ xs else [] | _ => []
end Go.Proofs.Ytoigkpkafgjeaaa
