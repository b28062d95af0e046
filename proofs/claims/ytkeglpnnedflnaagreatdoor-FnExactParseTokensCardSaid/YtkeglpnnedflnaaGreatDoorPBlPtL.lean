import Derived.Test.YtkeglpnnedflnaaGreatDoorPBlRL
import Derived.Test.YtkeglpnnedflnaaGreatDoorPBlMk
import Derived.Test.YtkeglpnnedflnaaGreatDoorPBlPt8
set_option linter.unusedSimpArgs false
set_option linter.unusedVariables false
set_option maxRecDepth 100000
namespace Go.Proofs.YtkeglpnnedflnaaGreatDoor
open Go.ChangeShapes Go.WideShapes Go.ChangeAt Go.RowKit Go.Joins Go.Deep
open GoRep (rep bulk)
open GoMark (mrk cnt mrkI cntI)
theorem ZCW:∀ l:List ByteArray,cntL l=l.length
 | []=>rfl
 | x :: xs=>by
  have ih:=ZCW xs
  show 1 + cntL xs=xs.length + 1
  omega
theorem ZIR {z:GScope} (h:Zay z=true):z.2.1.length≤3:=by
 unfold Zay at h
 simp only [Bool.and_eq_true,Zaz] at h
 have h2:=h.2.2
 split at h2
 ·have:=ZaE.1 h2
  omega
 ·rw [Bool.and_eq_true,Zaz] at h2
  omega
theorem ZHg:∀ l:List GScope,(∀ z ∈ l,Zay z=true)→cntL l≤5 * l.length
 | [],_=>Nat.le_refl _
 | z :: zs,h=>by
  have ih:=ZHg zs (fun y hy=>h y (List.mem_cons_of_mem _ hy))
  have h1:=ZIR (h z (List.mem_cons_self ..))
  have h2:=ZCW z.2.1
  show (1 + (cntL z.2.1 + 1)) + cntL zs≤5 * (zs.length + 1)
  omega
set_option maxRecDepth 100000
theorem ZHh:∀ l:List Zaj,cntL l=2 * l.length
 | []=>rfl
 | x :: xs=>by
  have ih:=ZHh xs
  show 2 + cntL xs=2 * (xs.length + 1)
  omega
theorem ZIS {f:GFilter} (h:Zar f=true):cntL f.2≤15:=by
 obtain ⟨on,zs⟩:=f
 cases on with
 | true =>
  have h1:=ZHg _ (ZC6 h)
  have h2:=(Zf7 h rfl).1
  have h2:zs.length≤3:=h2
  show cntL zs≤15
  omega
 | false =>
  unfold Zar at h
  have hn:¬ ((false,zs):GFilter).1=true:=Bool.false_ne_true
  rw [if_neg hn] at h
  have h:eqI ((zs.length:Nat):Int) 0=true:=h
  have h:=ZaE.1 h
  obtain rfl:=List.eq_nil_of_length_eq_zero (show zs.length=0 by omega)
  exact Nat.zero_le _
theorem ZIT {c:GCommand} (h:ZbQ c=true):cntI c≤25:=by
 have f:=Zes h
 have e:cntI c=cntL c.2.2.2.2.2.1 + cntL c.2.2.2.2.2.2.2.2.2.2:=by
  show 0 + (0 + (0 + (0 + (0 + (cntL c.2.2.2.2.2.1 + (0 + (0 + (0 + (0 + cntL c.2.2.2.2.2.2.2.2.2.2)))))))))=_
  omega
 have h1:=ZHh c.2.2.2.2.2.1
 have h2:=ZIS f.fi
 have h3:c.2.2.2.2.2.1.length≤5:=by
  by_cases q:Zbj c.2.1=true
  ·have:=Ze4 (f.set q)
   omega
  ·rw [(f.set0 q).1]
   decide
 omega
theorem ZK8 (l:List GToken):cntI (pR l)≤25:=by
 cases h:pB l with
 | true=>exact ZIT (ZNd h)
 | false =>
  rw [ZJM h]
  decide
theorem ZCX {l:List GToken} (h:bulk l≤1048576):Zef l:=by
 have e:bulk l=List.length l + Zb6 l:=rfl
 refine ⟨by omega,fun t ht=>?_⟩
 obtain ⟨k,hk,rfl⟩:=List.getElem_of_mem ht
 have h1:bulk l[k]≤Zb6 l:=ZAd (List.getElem?_eq_getElem hk)
 have h2:bulk l[k]=0 + l[k].2.size:=rfl
 omega
end Go.Proofs.YtkeglpnnedflnaaGreatDoor
