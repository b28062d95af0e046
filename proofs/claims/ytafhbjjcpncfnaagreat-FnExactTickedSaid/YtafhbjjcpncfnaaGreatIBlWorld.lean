import Derived.Test.YtafhbjjcpncfnaaGreatIBlServer
import Derived.Test.YtafhbjjcpncfnaaGreatIBlCpy
set_option linter.unusedSimpArgs false
set_option linter.unusedVariables false
set_option maxRecDepth 100000
set_option maxHeartbeats 4000000
namespace Go.Proofs.YtafhbjjcpncfnaaGreat
open Go.ChangeShapes Go.WideShapes Go.ChangeAt Go.RowKit Go.Joins Go.Deep
open GoRep (rep bulk)
def ZOM (s:Zad) (x:Int):Zad:=(s.1,s.2.1,s.2.2.1,s.2.2.2.1,s.2.2.2.2.1,s.2.2.2.2.2.1,s.2.2.2.2.2.2.1,s.2.2.2.2.2.2.2.1,s.2.2.2.2.2.2.2.2.1,s.2.2.2.2.2.2.2.2.2.1,s.2.2.2.2.2.2.2.2.2.2.1,x)
theorem Zxw {v:ZaT} (h:ZfA v):ZnL v:=⟨h.1.2,h.2.1,fun x hx=>(h.2.2 x hx).2.2⟩
theorem wA {x:Int} (h0 : -9223372036854775808≤x) (h1:x≤9223372036854775807):IntKind.wrap .i64 x=x:=IntWalk.i64_in _ (by omega)
end Go.Proofs.YtafhbjjcpncfnaaGreat
