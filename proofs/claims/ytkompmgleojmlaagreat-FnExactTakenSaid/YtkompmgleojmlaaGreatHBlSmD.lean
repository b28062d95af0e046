import Derived.Test.YtkompmgleojmlaaGreatHBlGive
import Derived.Test.YtkompmgleojmlaaGreatHBlTake
import Derived.Test.YtkompmgleojmlaaGreatHBlSmV
set_option linter.unusedSimpArgs false
set_option linter.unusedVariables false
namespace Go.Proofs.YtkompmgleojmlaaGreat
open GoRep (rep bulk)
open GoMark (mrk cnt mrkI cntI)
theorem ZEN {α:Type} [GoMark α] {y:α}:∀ {l:List α} {k:Nat},cntL (List.set l k y)≤cntL l + cnt y
 | [],_=>Nat.zero_le _
 | x :: l,0=>by
  show cnt y + cntL l≤cnt x + cntL l + cnt y
  omega
 | x :: l,k + 1=>by
  have:=ZEN (y:=y) (l:=l) (k:=k)
  show cnt x + cntL (List.set l k y)≤cnt x + cntL l + cnt y
  omega
theorem Zw4 {α:Type} [GoMark α] {y:α}:∀ {l:List α} {k:Nat} {x:α},l[k]?=some x→cnt y=cnt x→cntL (List.set l k y)=cntL l
 | [],_,_,h,_=>by simp at h
 | z :: l,0,x,h,e=>by
  obtain rfl:z=x:=by simpa using h
  show cnt y + cntL l=cnt z + cntL l
  omega
 | z :: l,k + 1,x,h,e=>by
  have:=Zw4 (y:=y) (l:=l) (k:=k) (by simpa using h) e
  show cnt z + cntL (List.set l k y)=cnt z + cntL l
  omega
theorem Zw5 (l:List Zad) (k:Nat) {y:Zad} (e:cnt y=cnt (Zaa l k)):cntL (List.set l k y)=cntL l:=by
 by_cases h:k < l.length
 ·exact Zw4 (x:=Zaa l k) (Zau (t:=Zae) h) e
 ·rw [List.set_eq_of_length_le (by omega)]
theorem ZF9 (s:Zad):cnt (ZaN s)≤100:=Nat.le_of_ble_eq_true rfl
theorem ZKB (v:ZaE) (i:Int):cntI (Zcc v i)≤cntI v + 100:=by
 have e0:cntI v=cntI v.1 + cntL v.2:=rfl
 unfold Zcc
 split
 ·have h1:=ZEN (y:=ZaN (Zaa v.2 (Int.toNat i))) (l:=v.2) (k:=Int.toNat i)
  have h2:=ZF9 (Zaa v.2 (Int.toNat i))
  show cntI v.1 + cntL (List.set v.2 (Int.toNat i) (ZaN (Zaa v.2 (Int.toNat i))))≤_
  omega
 ·omega
theorem ZKC (s:Zad) (t:ByteArray):cnt (ZGE s t)=cnt s:=by
 unfold ZGE
 split
 ·rfl
 ·rfl
theorem ZIm (v:ZaE) (i:Int) (t:ByteArray):cntI (Zbq v i t)≤cntI v + 100:=by
 have e0:cntI v=cntI v.1 + cntL v.2:=rfl
 unfold Zbq
 split
 ·have h1:=Zw5 v.2 (Int.toNat i) (ZKC (Zaa v.2 (Int.toNat i)) t)
  show cntI v.1 + cntL (List.set v.2 (Int.toNat i) (ZGE (Zaa v.2 (Int.toNat i)) t))≤_
  omega
 ·omega
theorem ZKD (s:Zad) (n:Int):cnt (ZGF s n)=cnt s:=by
 unfold ZGF
 split
 ·unfold Zvk
  split
  ·rfl
  ·rfl
 ·rfl
theorem ZIn (v:ZaE) (i:Int) (n:Int):cntI (Zbn v i n)≤cntI v + 100:=by
 have e0:cntI v=cntI v.1 + cntL v.2:=rfl
 unfold Zbn
 split
 ·have h1:=Zw5 v.2 (Int.toNat i) (ZKD (Zaa v.2 (Int.toNat i)) n)
  show cntI v.1 + cntL (List.set v.2 (Int.toNat i) (ZGF (Zaa v.2 (Int.toNat i)) n))≤_
  omega
 ·omega
end Go.Proofs.YtkompmgleojmlaaGreat
