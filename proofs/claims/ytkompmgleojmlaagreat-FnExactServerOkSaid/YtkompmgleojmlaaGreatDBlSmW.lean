import Derived.Test.YtkompmgleojmlaaGreatDBlServer
import Derived.Test.YtkompmgleojmlaaGreatDLawA
set_option linter.unusedSimpArgs false
set_option linter.unusedVariables false
namespace Go.Proofs.YtkompmgleojmlaaGreat
open Go.ChangeShapes Go.WideShapes Go.ChangeAt Go.RowKit Go.Joins Go.Deep
open GoRep (rep bulk)
theorem Zta {α:Type} [GoRep α] {x:α}:∀ {l:List α},x ∈ l→bulk x≤Zar l
  | y :: l,h=>by
    unfold Zar
    rcases List.mem_cons.1 h with rfl | h
    · omega
    · have:=Zta h
      omega
theorem Zyl {v:Zbg} (h:bulk v≤1048576):ZlB v:=by
  have e:bulk v=bulk v.1 + (v.2.length + Zar v.2):=rfl
  have e1:bulk v.1=bulk v.1.1 + (bulk v.1.2.1 + 0):=rfl
  have e2:bulk v.1.2.1=v.1.2.1.length + Zar v.1.2.1:=rfl
  refine ⟨by omega,by omega,fun s hx=>?_⟩
  have h1:=Zta hx
  have e4:bulk s=0 + (0 + (0 + (0 + (bulk s.2.2.2.2.1 + (bulk s.2.2.2.2.2.1 + (bulk s.2.2.2.2.2.2.1 + (bulk s.2.2.2.2.2.2.2.1 + (bulk s.2.2.2.2.2.2.2.2.1 + bulk s.2.2.2.2.2.2.2.2.2)))))))):=rfl
  have e3:bulk s.2.2.2.2.2.2.2.2.1=(s.2.2.2.2.2.2.2.2.1.1.length + Zar s.2.2.2.2.2.2.2.2.1.1) + bulk s.2.2.2.2.2.2.2.2.1.2:=rfl
  omega
end Go.Proofs.YtkompmgleojmlaaGreat
