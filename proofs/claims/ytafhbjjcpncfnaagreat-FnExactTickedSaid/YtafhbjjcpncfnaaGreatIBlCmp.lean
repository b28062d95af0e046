import Derived.Test.YtafhbjjcpncfnaaGreatIBxPerf
import Derived.Test.YtafhbjjcpncfnaaGreatIBmQ
import Derived.Shelf.SlSortCmp.SmallK
set_option linter.unusedSimpArgs false
set_option linter.unusedVariables false
set_option maxRecDepth 100000
namespace Go.Proofs.YtafhbjjcpncfnaaGreat
open Go.ChangeShapes Go.WideShapes Go.ChangeAt Go.RowKit Go.Joins Go.Deep
open GoRep (rep bulk)
def ZJU (a b:ByteArray):Int:=if Zh4 a b=true then -1 else if Zh4 b a=true then 1 else 0
set_option maxHeartbeats 4000000 in
theorem ZJV (a b:ByteArray) (p q r s:Int) (u v:Value) (W:World):Calls Tryz.prog 214 #[.agg #[.string a, .int .i64 p, .int .i64 q,u], .agg #[.string b, .int .i64 r, .int .i64 s,v]] W fun e w'=>e=.returned (.int .i64 (ZJU a b))∧∃ q os',w'=Go.Sort.grow (W.drewN q) os':=by
 go_enter Tryz.func214,Tryz.ntmps214
 go_wp2
 all_goals go_ret
 all_goals refine ⟨?_,0,_,by rw [Go.Sort.alloc_eq_grow,Go.Sort.alloc_eq_grow,Go.Sort.grow_grow]; rfl⟩
 ·have h:Zh4 a b=true:=by assumption
  have e:ZJU a b=-1:=by unfold ZJU; rw [if_pos h]
  rw [e]
  rfl
 ·have h1:Zh4 a b=false:=by assumption
  have h2:(!a.toList == b.toList)=true:=by assumption
  have hne:a ≠ b:=fun e=>by subst e; simp at h2
  have e:ZJU a b=1:=by unfold ZJU; rw [if_neg (by rw [h1]; exact Bool.false_ne_true),if_pos (ZvM h1 hne)]
  rw [e]
  rfl
 ·have h1:Zh4 a b=false:=by assumption
  have h2:(!a.toList == b.toList)=false:=by assumption
  have he:a=b:=by
   have h3:a.toList=b.toList:=by simpa using h2
   rw [ByteArray.toList_eq,ByteArray.toList_eq] at h3
   exact ByteArray.ext (Array.toList_inj.1 h3)
  have e:ZJU a b=0:=by subst he; unfold ZJU; rw [ZoU]; rfl
  rw [e]
  rfl
end Go.Proofs.YtafhbjjcpncfnaaGreat
