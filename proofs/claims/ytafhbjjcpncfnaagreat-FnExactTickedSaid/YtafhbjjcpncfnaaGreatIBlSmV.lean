import Derived.Test.YtafhbjjcpncfnaaGreatIBlCpy
import Derived.Test.YtafhbjjcpncfnaaGreatILawA
set_option linter.unusedSimpArgs false
set_option linter.unusedVariables false
namespace Go.Proofs.YtafhbjjcpncfnaaGreat
open Go.ChangeShapes Go.WideShapes Go.ChangeAt Go.RowKit Go.Joins Go.Deep
open GoRep (rep bulk)
theorem ZoI {α:Type} [GoRep α] {x:α}:∀ {l:List α},x ∈ l→bulk x≤ZaN l
 | y :: l,h=>by
  unfold ZaN
  rcases List.mem_cons.1 h with rfl | h
  ·omega
  ·have:=ZoI h
   omega
theorem ZCI {l:List ZaO} (h:bulk l≤1048576):ZbZ l:=by
 have e:bulk l=l.length + ZaN l:=rfl
 refine ⟨by omega,fun x hx=>?_⟩
 have h1:=ZoI hx
 have h2:bulk x=bulk x.1 + (0 + (0 + bulk x.2.2.2)):=rfl
 have h3:bulk x.2.2.2=x.2.2.2.length + ZaN x.2.2.2:=rfl
 omega
theorem ZCJ {st:ZaI} (h:bulk st≤1048576):ZkU st:=by
 have e:bulk st=bulk st.1 + (bulk st.2.1 + 0):=rfl
 have e2:bulk st.2.1=st.2.1.length + ZaN st.2.1:=rfl
 exact ⟨ZCI (by omega),by omega⟩
theorem ZCK {s:Zad} (h:bulk s≤1048576):Zhu s:=by
 have e:bulk s=0 + (0 + (0 + (0 + (bulk s.2.2.2.2.1 + (bulk s.2.2.2.2.2.1 + (bulk s.2.2.2.2.2.2.1 + (bulk s.2.2.2.2.2.2.2.1 + (bulk s.2.2.2.2.2.2.2.2.1 + bulk s.2.2.2.2.2.2.2.2.2)))))))):=rfl
 have e1:bulk s.2.2.2.2.1=List.length s.2.2.2.2.1 + ZaN (α:=ZHf) s.2.2.2.2.1:=rfl
 have e2:bulk s.2.2.2.2.2.1=0 + (s.2.2.2.2.2.1.2.length + ZaN s.2.2.2.2.2.1.2):=rfl
 have e3:bulk s.2.2.2.2.2.2.2.2.1=(s.2.2.2.2.2.2.2.2.1.1.length + ZaN s.2.2.2.2.2.2.2.2.1.1) + bulk s.2.2.2.2.2.2.2.2.1.2:=rfl
 refine ⟨by omega,⟨by omega,fun x hx=>?_⟩,by omega⟩
 have h1:=ZoI hx
 have h2:bulk x=0 + ((x.2.1.length + ZaN x.2.1) + 0):=rfl
 omega
theorem ZCL {v:ZaT} (h:bulk v≤1048576):ZfA v:=by
 have e:bulk v=bulk v.1 + (v.2.length + ZaN v.2):=rfl
 refine ⟨ZCJ (by omega),by omega,fun x hx=>ZCK ?_⟩
 have h1:=ZoI hx
 omega
end Go.Proofs.YtafhbjjcpncfnaaGreat
