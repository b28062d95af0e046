import Derived.Test.YtkompmgleojmlaaGreatHBlCpy
import Derived.Test.YtkompmgleojmlaaGreatHLawA
set_option linter.unusedSimpArgs false
set_option linter.unusedVariables false
namespace Go.Proofs.YtkompmgleojmlaaGreat
open Go.ChangeShapes Go.WideShapes Go.ChangeAt Go.RowKit Go.Joins Go.Deep
open GoRep (rep bulk)
theorem ZoM {α:Type} [GoRep α] {x:α}:∀ {l:List α},x ∈ l→bulk x≤ZaP l
 | y :: l,h=>by
  unfold ZaP
  rcases List.mem_cons.1 h with rfl | h
  ·omega
  ·have:=ZoM h
   omega
theorem ZCR {l:List ZaM} (h:bulk l≤1048576):Zb1 l:=by
 have e:bulk l=l.length + ZaP l:=rfl
 refine ⟨by omega,fun x hx=>?_⟩
 have h1:=ZoM hx
 have h2:bulk x=bulk x.1 + (0 + (0 + bulk x.2.2.2)):=rfl
 have h3:bulk x.2.2.2=x.2.2.2.length + ZaP x.2.2.2:=rfl
 omega
theorem ZCS {st:ZaI} (h:bulk st≤1048576):ZkV st:=by
 have e:bulk st=bulk st.1 + (bulk st.2.1 + 0):=rfl
 have e2:bulk st.2.1=st.2.1.length + ZaP st.2.1:=rfl
 exact ⟨ZCR (by omega),by omega⟩
theorem ZCT {s:Zad} (h:bulk s≤1048576):Zhq s:=by
 have e:bulk s=0 + (0 + (0 + (0 + (bulk s.2.2.2.2.1 + (bulk s.2.2.2.2.2.1 + (bulk s.2.2.2.2.2.2.1 + (bulk s.2.2.2.2.2.2.2.1 + (bulk s.2.2.2.2.2.2.2.2.1 + bulk s.2.2.2.2.2.2.2.2.2)))))))):=rfl
 have e1:bulk s.2.2.2.2.1=List.length s.2.2.2.2.1 + ZaP (α:=ZHs) s.2.2.2.2.1:=rfl
 have e2:bulk s.2.2.2.2.2.1=0 + (s.2.2.2.2.2.1.2.length + ZaP s.2.2.2.2.2.1.2):=rfl
 have e3:bulk s.2.2.2.2.2.2.2.2.1=(s.2.2.2.2.2.2.2.2.1.1.length + ZaP s.2.2.2.2.2.2.2.2.1.1) + bulk s.2.2.2.2.2.2.2.2.1.2:=rfl
 refine ⟨by omega,⟨by omega,fun x hx=>?_⟩,by omega⟩
 have h1:=ZoM hx
 have h2:bulk x=0 + ((x.2.1.length + ZaP x.2.1) + 0):=rfl
 omega
theorem ZCU {v:ZaE} (h:bulk v≤1048576):ZcD v:=by
 have e:bulk v=bulk v.1 + (v.2.length + ZaP v.2):=rfl
 refine ⟨ZCS (by omega),by omega,fun x hx=>ZCT ?_⟩
 have h1:=ZoM hx
 omega
end Go.Proofs.YtkompmgleojmlaaGreat
