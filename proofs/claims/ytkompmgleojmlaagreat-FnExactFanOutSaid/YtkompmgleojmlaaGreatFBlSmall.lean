import Derived.Test.YtkompmgleojmlaaGreatFBlFan
import Derived.Test.YtkompmgleojmlaaGreatFLawA
set_option linter.unusedSimpArgs false
set_option linter.unusedVariables false
namespace Go.Proofs.YtkompmgleojmlaaGreat
open Go.ChangeShapes Go.WideShapes Go.ChangeAt Go.RowKit Go.Joins Go.Deep
open GoRep (rep bulk)
open GoMark (mrk cnt mrkI cntI)
theorem Znb {α:Type} [GoRep α] {x:α}:∀ {l:List α},x ∈ l→bulk x≤ZaF l
  | y :: l,h=>by
    unfold ZaF
    rcases List.mem_cons.1 h with rfl | h
    · omega
    · have:=Znb h
      omega
theorem ZyQ {l:List ZaM} (h:bulk l≤1048576):ZbO l:=by
  have e:bulk l=l.length + ZaF l:=rfl
  refine ⟨by omega,fun x hx=>?_⟩
  have h1:=Znb hx
  have h2:bulk x=bulk x.1 + (0 + (0 + bulk x.2.2.2)):=rfl
  have h3:bulk x.2.2.2=x.2.2.2.length + ZaF x.2.2.2:=rfl
  omega
theorem ZyR {st:Za7} (h:bulk st≤1048576):ZjM st:=by
  have e:bulk st=bulk st.1 + (bulk st.2.1 + 0):=rfl
  have e2:bulk st.2.1=st.2.1.length + ZaF st.2.1:=rfl
  exact ⟨ZyQ (by omega),by omega⟩
theorem ZyS {s:Zal} (h:bulk s≤1048576):ZdB s:=by
  have e:bulk s=0 + (0 + (0 + (0 + (bulk s.2.2.2.2.1 + (bulk s.2.2.2.2.2.1 + (bulk s.2.2.2.2.2.2.1 + (bulk s.2.2.2.2.2.2.2.1 + (bulk s.2.2.2.2.2.2.2.2.1 + bulk s.2.2.2.2.2.2.2.2.2)))))))):=rfl
  have e1:bulk s.2.2.2.2.1=List.length s.2.2.2.2.1 + ZaF (α:=ZFi) s.2.2.2.2.1:=rfl
  have e2:bulk s.2.2.2.2.2.1=0 + (s.2.2.2.2.2.1.2.length + ZaF s.2.2.2.2.2.1.2):=rfl
  have e3:bulk s.2.2.2.2.2.2.2.2.1=(s.2.2.2.2.2.2.2.2.1.1.length + ZaF s.2.2.2.2.2.2.2.2.1.1) + bulk s.2.2.2.2.2.2.2.2.1.2:=rfl
  refine ⟨by omega,⟨by omega,fun x hx=>?_⟩,by omega⟩
  have h1:=Znb hx
  have h2:bulk x=0 + ((x.2.1.length + ZaF x.2.1) + 0):=rfl
  omega
theorem Zks {v:Za6} (h:bulk v≤1048576):Zc8 v:=by
  have e:bulk v=bulk v.1 + (v.2.length + ZaF v.2):=rfl
  refine ⟨ZyR (by omega),by omega,fun x hx=>ZyS ?_⟩
  have h1:=Znb hx
  omega
def cb (s:Zal):Nat:=cnt (ZKi s ([],s.2.2.2.2.2.2.2.2.1.2))
def cbL:List Zal→Nat
  | []=>0
  | x :: l=>cb x + cbL l
theorem ZHc (s:Zal):cnt s=cb s + 4 * List.length s.2.2.2.2.2.2.2.2.1.1:=by
  have h:=ZKk s.2.2.2.2.2.2.2.2.1.1
  have e1:cnt s=cnt s.1 + (cnt s.2.1 + (cnt s.2.2.1 + (cnt s.2.2.2.1 + (cnt s.2.2.2.2.1 + (cnt s.2.2.2.2.2.1 + (cnt s.2.2.2.2.2.2.1 + (cnt s.2.2.2.2.2.2.2.1 + ((cntL s.2.2.2.2.2.2.2.2.1.1 + cnt s.2.2.2.2.2.2.2.2.1.2) + cnt s.2.2.2.2.2.2.2.2.2)))))))):=rfl
  have e2:cb s=cnt s.1 + (cnt s.2.1 + (cnt s.2.2.1 + (cnt s.2.2.2.1 + (cnt s.2.2.2.2.1 + (cnt s.2.2.2.2.2.1 + (cnt s.2.2.2.2.2.2.1 + (cnt s.2.2.2.2.2.2.2.1 + ((0 + cnt s.2.2.2.2.2.2.2.2.1.2) + cnt s.2.2.2.2.2.2.2.2.2)))))))):=rfl
  omega
theorem ZID (st:Za7) (n:Int) (s:Zal):cb (ZfJ st n s)=cb s:=rfl
theorem ZDH (st:Za7) (n:Int):∀ l:List Zal,cbL (l.map (ZfJ st n))=cbL l
  | []=>rfl
  | x :: l=>by
    have ih:=ZDH st n l
    show cb (ZfJ st n x) + cbL (l.map (ZfJ st n))=cb x + cbL l
    rw [ih,ZID]
theorem ZHd:∀ l:List Zal,cbL l≤cntL l
  | []=>Nat.le_refl _
  | x :: l=>by
    have ih:=ZHd l
    have h:=ZHc x
    show cb x + cbL l≤cnt x + cntL l
    omega
theorem ZDI:∀ l:List Zal,(∀ x ∈ l,ZdB x)→cntL l≤cbL l + 4194304 * l.length
  | [],_=>Nat.le_refl _
  | x :: l,h=>by
    have ih:=ZDI l (fun y hy=>h y (List.mem_cons_of_mem _ hy))
    have h1:=ZHc x
    have h2:=(h x (List.mem_cons_self ..)).2.2
    show cnt x + cntL l≤cb x + cbL l + 4194304 * (l.length + 1)
    omega
theorem ZAf (st:Za7) (l:List Zal) (a:Int):∀ k,cbL (fanN st l a k)=cbL l
  | 0=>rfl
  | k + 1=>by
    unfold fanN
    rw [ZDH,ZAf st l a k]
theorem ZFJ {v:Za6} (h:Zc8 v) (n:Int):cntI (ZdH v n)≤cntI v + 4194304 * v.2.length:=by
  have e1:cntI v=cntI v.1 + cntL v.2:=rfl
  have e2:cntI (ZdH v n)=cntI v.1 + cntL (fanN v.1 v.2 (max n 0) (Int.toNat (((List.length v.1.2.1:Nat):Int) - max n 0))):=rfl
  have h1:=ZDI _ (Zjm (st:=v.1) (l:=v.2) (a:=max n 0) h.2.2 (Int.toNat (((List.length v.1.2.1:Nat):Int) - max n 0)))
  rw [ZAf,Zm9] at h1
  have h2:=ZHd v.2
  omega
end Go.Proofs.YtkompmgleojmlaaGreat
