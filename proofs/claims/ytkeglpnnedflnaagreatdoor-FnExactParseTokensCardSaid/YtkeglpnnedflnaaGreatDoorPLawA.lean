import Derived.Test.YtkeglpnnedflnaaGreatDoorPBmTy
set_option linter.unusedSimpArgs false
set_option linter.unusedVariables false
namespace Go.Proofs.YtkeglpnnedflnaaGreatDoor
open Go.ChangeShapes Go.WideShapes Go.ChangeAt Go.RowKit Go.Joins Go.Deep
open GoRep (rep bulk)
open GoMark (mrk cnt mrkI cntI)
theorem ZL0 (x:Int):(x < -9223372036854775808∨9223372036854775807 < x)∨IntKind.wrap .i64 x=x:=by
 by_cases h:x < -9223372036854775808∨9223372036854775807 < x
 ·exact .inl h
 ·exact .inr (IntWalk.i64_in _ (by omega))
theorem Zb9 {x:Int} (h0 : -9223372036854775808≤x) (h1:x≤9223372036854775807):IntKind.wrap .i64 x=x:=IntWalk.i64_in _ (by omega)
theorem ZkF (l:Int) (b:Nat):(l < b∧szT l b=-1)∨((b:Int)≤l∧szT l b=l - b):=by
 unfold szT
 split
 ·exact .inl ⟨by omega,rfl⟩
 ·exact .inr ⟨by omega,rfl⟩
theorem Zrb {α:Type} [GoRep α] {xs:List α} {x:α} {k:Nat} (h:xs[k]?=some x):Zb6 (xs.take (k + 1))=Zb6 (xs.take k) + bulk x:=by
 rw [List.take_add_one,h,Zmu]
 simp [Zb6]
abbrev szP (left:Int):Prop:=0≤left∧left≤1048576
theorem ZAc {α:Type} [GoRep α] (xs:List α) (k:Nat):Zb6 (xs.take k)≤Zb6 xs:=by
 have h:=Zmu (xs.take k) (xs.drop k)
 rw [List.take_append_drop] at h
 omega
theorem ZAd {α:Type} [GoRep α] {xs:List α} {x:α} {k:Nat} (h:xs[k]?=some x):bulk x≤Zb6 xs:=by
 have h1:=Zrb h
 have h2:=ZAc xs (k + 1)
 omega
theorem ZoI {α:Type} {xs:List α} {x:α} {k:Nat} (h:xs[k]?=some x):xs.take (k + 1)=xs.take k ++ [x]:=by
 rw [List.take_add_one,h]; rfl
theorem ZHT {α:Type} {l r:List α} {k:Nat} {y x:α} (hk:l.length=k):(l ++ y :: r).set k x=(l ++ [x]) ++ r:=by
 rw [List.set_append_right _ _ (by omega),hk,Nat.sub_self]
 simp
theorem ZGA {α:Type} {xs:List α} {d x:α} {k:Nat} (h:xs[k]?=some x):(xs.take k ++ List.replicate (xs.length - k) d).set k x=xs.take (k + 1) ++ List.replicate (xs.length - (k + 1)) d:=by
 have hk:k < xs.length:=(List.getElem?_eq_some_iff.1 h).1
 rw [ZoI h,show xs.length - k=(xs.length - (k + 1)) + 1 from by omega,List.replicate_succ]
 exact ZHT (by rw [List.length_take]; omega)
theorem ZGB {α:Type} (xs:List α) (d:α):xs.take xs.length ++ List.replicate (xs.length - xs.length) d=xs:=by simp
theorem Zfv {α:Type} [GoMark α] {xs:List α} {x:α} {k:Nat} (h:xs[k]?=some x):cntL (xs.take (k + 1))=cntL (xs.take k) + cnt x:=by
 rw [ZoI h,ZoL]
 simp [cntL]
theorem Zjv {α:Type} [GoMark α] (xs:List α) (k:Nat):cntL (xs.take k)≤cntL xs:=by
 have h:=ZoL (xs.take k) (xs.drop k)
 rw [List.take_append_drop] at h
 omega
theorem gm1 (x k:Int):mrkI x k=x:=rfl
theorem gm2 (x:Bool) (k:Int):mrkI x k=x:=rfl
theorem gm3 (x:ByteArray) (k:Int):mrkI x k=x:=rfl
theorem gm4 {α:Type} [GoMark α] (x:List α) (k:Int):mrkI x k=markL x k:=rfl
theorem gm5 {α β:Type} [GoMark α] [GoMark β] (x:α × β) (k:Int):mrkI x k=(mrkI x.1 k,mrkI x.2 (k + cntI x.1)):=rfl
theorem gc1 (x:Int):cntI x=0:=rfl
theorem gc2 (x:Bool):cntI x=0:=rfl
theorem gc3 (x:ByteArray):cntI x=0:=rfl
theorem gc4 {α:Type} [GoMark α] (x:List α):cntI x=cntL x:=rfl
theorem gc5 {α β:Type} [GoMark α] [GoMark β] (x:α × β):cntI x=cntI x.1 + cntI x.2:=rfl
theorem gk1 (x:Int):cnt x=1:=rfl
theorem gk2 (x:Bool):cnt x=1:=rfl
theorem gk3 (x:ByteArray):cnt x=1:=rfl
theorem gk4 {α:Type} [GoMark α] (x:List α):cnt x=cntL x:=rfl
theorem gk5 {α β:Type} [GoMark α] [GoMark β] (x:α × β):cnt x=cnt x.1 + cnt x.2:=rfl
theorem gx1 (x k:Int):mrk x k=k:=rfl
theorem gx2 (x:Bool) (k:Int):mrk x k=decide (k % 3=0):=rfl
theorem gx3 (x:ByteArray) (k:Int):mrk x k=ZiF k:=rfl
theorem gx4 {α:Type} [GoMark α] (x:List α) (k:Int):mrk x k=markL x k:=rfl
theorem gx5 {α β:Type} [GoMark α] [GoMark β] (x:α × β) (k:Int):mrk x k=(mrk x.1 k,mrk x.2 (k + cnt x.1)):=rfl
def ZyU {α:Type} [GoMark α] (xs:List α) (m:Int) (k:Nat):List α:=markL (xs.take k) m ++ xs.drop k
theorem ZkG {α:Type} [GoMark α] (xs:List α) (m:Int):ZyU xs m 0=xs:=by simp [ZyU,markL]
theorem ZGC {α:Type} [GoMark α] (xs:List α) (m:Int):ZyU xs m xs.length=markL xs m:=by simp [ZyU]
theorem ZfU {α:Type} [GoMark α] (xs:List α) (m:Int) (k:Nat):(ZyU xs m k).length=xs.length:=by
 unfold ZyU
 rw [List.length_append,ZkH,List.length_take,List.length_drop]
 omega
theorem ZmW {α:Type} [GoMark α] {xs:List α} {m:Int} {k:Nat} {x:α} (h:xs[k]?=some x):(ZyU xs m k)[k]?=some x:=by
 have hk:k < xs.length:=(List.getElem?_eq_some_iff.1 h).1
 unfold ZyU
 rw [List.getElem?_append_right (by rw [ZkH,List.length_take]; omega),ZkH,List.length_take,Nat.min_eq_left (by omega),Nat.sub_self,List.getElem?_drop]
 simpa using h
theorem Zcu {K:Int} (h:0≤K):eqI (Int.tmod K 3) 0=decide (K % 3=0):=by
 rw [Int.tmod_eq_emod_of_nonneg h,Bool.eq_iff_iff,ZaE,decide_eq_true_iff]
theorem Zgw {t:Ty} {xs:List t.den} {k:Nat} {x:t.den} (h:xs[k]?=some x):nth t xs k=x:=by
 have hk:k < xs.length:=(List.getElem?_eq_some_iff.1 h).1
 rw [Zat hk] at h
 exact Option.some.inj h
theorem ZmX {α:Type} [GoMark α] {xs:List α} {m:Int} {k:Nat} {x y:α} (h:xs[k]?=some x) (hy:y=mrk x (m + cntL (xs.take k))):(ZyU xs m k).set k y=ZyU xs m (k + 1):=by
 subst hy
 have hk:k < xs.length:=(List.getElem?_eq_some_iff.1 h).1
 have hd:xs.drop k=x :: xs.drop (k + 1):=by
  rw [List.drop_eq_getElem_cons hk]
  congr 1
  exact (List.getElem?_eq_some_iff.1 h).2
 unfold ZyU
 rw [hd,ZHT (by rw [ZkH,List.length_take]; omega),ZoI h,ZuN]
 simp [markL]
class ZmF (α:Type) [GoMark α]:Prop where
 c1:∀ (x:α) (k:Int),cnt (mrk x k)=cnt x
 i1:∀ (x:α) (k:Int),mrk (mrk x k) k=mrk x k
 c2:∀ (x:α) (k:Int),cntI (mrkI x k)=cntI x
 i2:∀ (x:α) (k:Int),mrkI (mrkI x k) k=mrkI x k
instance:ZmF Int:=⟨fun _ _=>rfl,fun _ _=>rfl,fun _ _=>rfl,fun _ _=>rfl⟩
instance:ZmF Bool:=⟨fun _ _=>rfl,fun _ _=>rfl,fun _ _=>rfl,fun _ _=>rfl⟩
instance:ZmF ByteArray:=⟨fun _ _=>rfl,fun _ _=>rfl,fun _ _=>rfl,fun _ _=>rfl⟩
instance {α β:Type} [GoMark α] [GoMark β] [ZmF α] [ZmF β]:ZmF (α × β) where
 c1 x k:=by rw [gx5,gk5,gk5,ZmF.c1,ZmF.c1]
 i1 x k:=by
  rw [gx5 x k,gx5]
  refine Prod.ext (ZmF.i1 _ _) ?_
  show mrk (mrk x.2 (k + cnt x.1)) (k + cnt (mrk x.1 k))=_
  rw [ZmF.c1,ZmF.i1]
 c2 x k:=by rw [gm5,gc5,gc5,ZmF.c2,ZmF.c2]
 i2 x k:=by
  rw [gm5 x k,gm5]
  refine Prod.ext (ZmF.i2 _ _) ?_
  show mrkI (mrkI x.2 (k + cntI x.1)) (k + cntI (mrkI x.1 k))=_
  rw [ZmF.c2,ZmF.i2]
theorem ZoJ {α:Type} [GoMark α] [ZmF α]:∀ (xs:List α) (k:Int),cntL (markL xs k)=cntL xs
 | [],_=>rfl
 | x :: xs,k=>by unfold markL cntL; rw [ZmF.c1,ZoJ xs]
theorem ZlM {α:Type} [GoMark α] [ZmF α]:∀ (xs:List α) (k:Int),markL (markL xs k) k=markL xs k
 | [],_=>rfl
 | x :: xs,k=>by
  show mrk (mrk x k) k :: markL (markL xs (k + cnt x)) (k + cnt (mrk x k))=mrk x k :: markL xs (k + cnt x)
  rw [ZmF.c1,ZmF.i1,ZlM xs]
instance {α:Type} [GoMark α] [ZmF α]:ZmF (List α):=⟨ZoJ,ZlM,ZoJ,ZlM⟩
class Zph (α:Type) [GoMark α] [GoRep α] where
 A:Nat
 h1:∀ x:α,cnt x≤A * (1 + bulk x)
 h2:∀ x:α,cntI x≤A * (1 + bulk x)
@[reducible] instance:Zph Int:=⟨1,fun x=>by rw [gk1]; omega,fun x=>by rw [gc1]; omega⟩
@[reducible] instance:Zph Bool:=⟨1,fun x=>by rw [gk2]; omega,fun x=>by rw [gc2]; omega⟩
@[reducible] instance:Zph ByteArray:=⟨1,fun x=>by rw [gk3]; omega,fun x=>by rw [gc3]; omega⟩
theorem ZEu {a b x y p q:Nat} (h:p≤a * (1 + x)) (k:q≤b * (1 + y)):p + q≤(a + b) * (1 + (x + y)):=by
 have e1:a * (1 + x)≤a * (1 + (x + y)):=Nat.mul_le_mul_left _ (by omega)
 have e2:b * (1 + y)≤b * (1 + (x + y)):=Nat.mul_le_mul_left _ (by omega)
 rw [Nat.add_mul]
 omega
@[reducible] instance {α β:Type} [GoMark α] [GoMark β] [GoRep α] [GoRep β] [Zph α] [Zph β]:Zph (α × β) :=
  ⟨Zph.A α + Zph.A β,fun x=>by rw [gk5]; exact ZEu (Zph.h1 x.1) (Zph.h1 x.2),fun x=>by rw [gc5]; exact ZEu (Zph.h2 x.1) (Zph.h2 x.2)⟩
theorem ZyV {α:Type} [GoMark α] [GoRep α] [Zph α]:∀ xs:List α,cntL xs≤Zph.A α * (xs.length + Zb6 xs)
 | []=>Nat.zero_le _
 | x :: xs=>by
  have h1:=Zph.h1 x
  have h2:=ZyV xs
  have e:Zph.A α * ((x :: xs).length + Zb6 (x :: xs))=Zph.A α * (1 + bulk x) + Zph.A α * (xs.length + Zb6 xs):=by
   rw [← Nat.mul_add]
   congr 1
   rw [List.length_cons]
   show xs.length + 1 + (bulk x + Zb6 xs)=_
   omega
  rw [e]
  show cnt x + cntL xs≤_
  omega
@[reducible] instance {α:Type} [GoMark α] [GoRep α] [Zph α]:Zph (List α) :=
  ⟨Zph.A α,fun x=>Nat.le_trans (ZyV x) (Nat.mul_le_mul_left _ (by show _≤1 + (x.length + Zb6 x); omega)),fun x=>Nat.le_trans (ZyV x) (Nat.mul_le_mul_left _ (by show _≤1 + (x.length + Zb6 x); omega))⟩
theorem ZlN {α:Type} [GoMark α] {xs:List α} {m:Int} (h:markL xs m=xs) {k:Nat} {x:α} (hk:xs[k]?=some x):x=mrk x (m + cntL (xs.take k)):=by
 have h1:=ZEy xs m k x hk
 rw [h,hk] at h1
 exact Option.some.inj h1
theorem GXA:type_of% (And.intro @gm1 (And.intro @gm2 (And.intro @gm3 (And.intro @gm4 (And.intro @gm5 (And.intro @gc1 (And.intro @gc2 (And.intro @gc3 (And.intro @gc4 (And.intro @gc5 (And.intro @gk1 (And.intro @gk2 (And.intro @gk3 (And.intro @gk4 (And.intro @gk5 (And.intro @gx1 (And.intro @gx2 (And.intro @gx3 (And.intro @gx4 (@gx5)))))))))))))))))))):=And.intro @gm1 (And.intro @gm2 (And.intro @gm3 (And.intro @gm4 (And.intro @gm5 (And.intro @gc1 (And.intro @gc2 (And.intro @gc3 (And.intro @gc4 (And.intro @gc5 (And.intro @gk1 (And.intro @gk2 (And.intro @gk3 (And.intro @gk4 (And.intro @gk5 (And.intro @gx1 (And.intro @gx2 (And.intro @gx3 (And.intro @gx4 (@gx5)))))))))))))))))))
end Go.Proofs.YtkeglpnnedflnaaGreatDoor
