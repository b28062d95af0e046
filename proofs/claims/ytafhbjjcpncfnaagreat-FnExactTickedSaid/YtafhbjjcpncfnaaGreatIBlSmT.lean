import Derived.Test.YtafhbjjcpncfnaaGreatIBlTick
import Derived.Test.YtafhbjjcpncfnaaGreatIBlSmV
set_option linter.unusedSimpArgs false
set_option linter.unusedVariables false
namespace Go.Proofs.YtafhbjjcpncfnaaGreat
open GoRep (rep bulk)
open GoMark (mrk cnt mrkI cntI)
theorem ZJ8 (s:Zad):cnt (ZkM s)≤cnt s + 100:=by
 unfold ZkM
 split
 ·have h:cnt (Zaz s)≤100:=Nat.le_of_ble_eq_true rfl
  omega
 ·split
  ·exact Nat.le_add_right (cnt s) 100
  ·omega
theorem ZwZ:∀ l:List Zad,cntL (List.map ZkM l)≤cntL l + 100 * l.length
 | []=>Nat.zero_le _
 | x :: l=>by
  have h1:=ZwZ l
  have h2:=ZJ8 x
  have e:(x :: l).length=l.length + 1:=rfl
  rw [e]
  show cnt (ZkM x) + cntL (List.map ZkM l)≤cnt x + cntL l + 100 * (l.length + 1)
  omega
theorem ZFP (v:ZaT):cntI (Za0 v)≤cntI v + 300:=by
 have e0:cntI v=cntI v.1 + cntL v.2:=rfl
 cases hs:Zbf v with
 | false =>
  have E:Za0 v=v:=if_neg (by rw [hs]; decide)
  rw [E]
  omega
 | true =>
  have E:Za0 v=Zma v:=if_pos hs
  have h1:=ZwZ v.2
  have h3:(List.length v.2:Int)=3:=by
   unfold Zbf at hs
   rw [Bool.and_eq_true,Bool.and_eq_true] at hs
   exact ZaJ.1 hs.2.1
  rw [E]
  show cntI v.1 + cntL (List.map ZkM v.2)≤_
  omega
theorem Zw0:∀ xs:List Int,cntL xs=xs.length
 | []=>rfl
 | x :: xs=>by
  have:=Zw0 xs
  show GoMark.cnt x + cntL xs=_
  rw [this,List.length_cons,Nat.add_comm]
  rfl
theorem ZCH (v:ZaT):cntL (Zcl v)≤bulk v:=by
 have e:bulk v=bulk v.1 + (v.2.length + ZaN v.2):=rfl
 have h:=Zmb v.2 v.2.length
 rw [Zw0]
 unfold Zcl
 split
 ·omega
 ·exact Nat.zero_le _
end Go.Proofs.YtafhbjjcpncfnaaGreat
