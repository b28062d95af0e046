/-
  Draws of filters.
  No condition but what the arguments' cells hold. Printed by vcgen.py.
-/
import Derived.Test.YtoigkpkafgjeaaaBBlDraw2
set_option linter.unusedSimpArgs false
set_option linter.unusedVariables false
set_option maxRecDepth 100000
set_option maxHeartbeats 4000000
namespace Go.Proofs.Ytoigkpkafgjeaaa
open Go.ChangeShapes Go.WideShapes Go.ChangeAt Go.RowKit Go.Joins Go.Deep
open GoRep (rep bulk)

def scope6 (c : GCur) : GScope × GCur := (bif (geI (IntKind.wrap .i64 (1 + (below c 4).1)) 3) then (bif (once (name2 (below (below c 4).2 15).2).2 3).1 then (((IntKind.wrap .i64 (1 + (below c 4).1)), ([(⟨#[97]⟩ : ByteArray), (⟨#[105, 110, 98, 111, 120]⟩ : ByteArray)], (IntKind.wrap .i64 (1 + (below (below c 4).2 15).1)))), (once (name2 (below (below c 4).2 15).2).2 3).2) else (((IntKind.wrap .i64 (1 + (below c 4).1)), ([(name2 (below (below c 4).2 15).2).1], (IntKind.wrap .i64 (1 + (below (below c 4).2 15).1)))), (once (name2 (below (below c 4).2 15).2).2 3).2)) else (((IntKind.wrap .i64 (1 + (below c 4).1)), (([] : List ByteArray), (IntKind.wrap .i64 (1 + (below (below c 4).2 15).1)))), (below (below c 4).2 15).2))
instance scope6_ok (c : GCur) [CurOk c] : CurOk (scope6 c).2 := by
  unfold scope6
  simp only [bif_if]
  repeat' split
  all_goals infer_instance
def scs6 (c : GCur) : Nat → List GScope × GCur
  | 0 => ([], c)
  | k + 1 => ((scs6 c k).1 ++ [(scope6 (scs6 c k).2).1], (scope6 (scs6 c k).2).2)
instance scs6_ok (c : GCur) [CurOk c] : ∀ k, CurOk (scs6 c k).2
  | 0 => by unfold scs6; infer_instance
  | k + 1 => by have := scs6_ok c k; unfold scs6; infer_instance
def right6 (c : GCur) : GFilter × GCur := bif (once c 5).1 then ((false, []), (below (once c 5).2 3).2) else ((true, (scs6 (below (once c 5).2 3).2 (Int.toNat (1 + (below (once c 5).2 3).1))).1), (scs6 (below (once c 5).2 3).2 (Int.toNat (1 + (below (once c 5).2 3).1))).2)
instance right6_ok (c : GCur) [CurOk c] : CurOk (right6 c).2 := by
  unfold right6
  simp only [bif_if]
  split <;> infer_instance
end Go.Proofs.Ytoigkpkafgjeaaa
