import Derived.Test.YtkompmgleojmlaaGreatDBmTy
set_option linter.unusedSimpArgs false
set_option linter.unusedVariables false
namespace Go.Proofs.YtkompmgleojmlaaGreat
open Go.ChangeShapes Go.WideShapes Go.ChangeAt Go.RowKit Go.Joins Go.Deep
open GoRep (rep bulk)
open GoMark (mrk cnt mrkI cntI)
theorem Zge (x:Int):(x < -9223372036854775808∨9223372036854775807 < x)∨IntKind.wrap .i64 x=x:=by
  by_cases h:x < -9223372036854775808∨9223372036854775807 < x
  · exact .inl h
  · exact .inr (IntWalk.i64_in _ (by omega))
theorem Zgf {x:Int} (h0 : -9223372036854775808≤x) (h1:x≤9223372036854775807):IntKind.wrap .i64 x=x:=IntWalk.i64_in _ (by omega)
theorem ZaI (l:Int) (b:Nat):(l < b∧szT l b=-1)∨((b:Int)≤l∧szT l b=l - b):=by
  unfold szT
  split
  · exact .inl ⟨by omega,rfl⟩
  · exact .inr ⟨by omega,rfl⟩
theorem ZdA {α:Type} [GoRep α] {xs:List α} {x:α} {k:Nat} (h:xs[k]?=some x):Zar (xs.take (k + 1))=Zar (xs.take k) + bulk x:=by
  rw [List.take_add_one,h,Zl8]
  simp [Zar]
abbrev szP (left:Int):Prop:=0≤left∧left≤1048576
theorem Zqr {α:Type} [GoRep α] (h:∀ x:α,bulk x=0):∀ xs:List α,Zar xs=0
  | []=>rfl
  | x :: xs=>by
    have h1:=h x
    have h2:=Zqr h xs
    unfold Zar
    omega
theorem ZGz {t:Ty} {P:t.den→Prop} {xs:List t.den} {k:Nat} (h:ZJe P xs) (hk:k < xs.length):P (nth t xs k):=h _ (List.mem_of_getElem? (Zap hk))
theorem Zf0 {α:Type} [GoRep α] (xs:List α) (k:Nat):Zar (xs.take k)≤Zar xs:=by
  have h:=Zl8 (xs.take k) (xs.drop k)
  rw [List.take_append_drop] at h
  omega
theorem Zf1 {α:Type} [GoRep α] {xs:List α} {x:α} {k:Nat} (h:xs[k]?=some x):bulk x≤Zar xs:=by
  have h1:=ZdA h
  have h2:=Zf0 xs (k + 1)
  omega
theorem ZEE {α:Type} {xs:List α} {x:α} {k:Nat} (h:xs[k]?=some x):xs.take (k + 1)=xs.take k ++ [x]:=by
  rw [List.take_add_one,h]; rfl
theorem ZIT {α:Type} {l r:List α} {k:Nat} {y x:α} (hk:l.length=k):(l ++ y :: r).set k x=(l ++ [x]) ++ r:=by
  rw [List.set_append_right _ _ (by omega),hk,Nat.sub_self]
  simp
theorem ZGA {α:Type} {xs:List α} {d x:α} {k:Nat} (h:xs[k]?=some x):(xs.take k ++ List.replicate (xs.length - k) d).set k x=xs.take (k + 1) ++ List.replicate (xs.length - (k + 1)) d:=by
  have hk:k < xs.length:=(List.getElem?_eq_some_iff.1 h).1
  rw [ZEE h,show xs.length - k=(xs.length - (k + 1)) + 1 from by omega,List.replicate_succ]
  exact ZIT (by rw [List.length_take]; omega)
theorem ZGB {α:Type} (xs:List α) (d:α):xs.take xs.length ++ List.replicate (xs.length - xs.length) d=xs:=by simp
theorem gm5 {α β:Type} [GoMark α] [GoMark β] (x:α × β) (k:Int):mrkI x k=(mrkI x.1 k,mrkI x.2 (k + cntI x.1)):=rfl
theorem gc1 (x:Int):cntI x=0:=rfl
theorem gc2 (x:Bool):cntI x=0:=rfl
theorem gc3 (x:ByteArray):cntI x=0:=rfl
theorem gc5 {α β:Type} [GoMark α] [GoMark β] (x:α × β):cntI x=cntI x.1 + cntI x.2:=rfl
theorem gk1 (x:Int):cnt x=1:=rfl
theorem gk2 (x:Bool):cnt x=1:=rfl
theorem gk3 (x:ByteArray):cnt x=1:=rfl
theorem gk5 {α β:Type} [GoMark α] [GoMark β] (x:α × β):cnt x=cnt x.1 + cnt x.2:=rfl
theorem gx5 {α β:Type} [GoMark α] [GoMark β] (x:α × β) (k:Int):mrk x k=(mrk x.1 k,mrk x.2 (k + cnt x.1)):=rfl
theorem ZdB {t:Ty} {xs:List t.den} {k:Nat} {x:t.den} (h:xs[k]?=some x):nth t xs k=x:=by
  have hk:k < xs.length:=(List.getElem?_eq_some_iff.1 h).1
  rw [Zap hk] at h
  exact Option.some.inj h
class ZoE (α:Type) [GoMark α]:Prop where
  c1:∀ (x:α) (k:Int),cnt (mrk x k)=cnt x
  i1:∀ (x:α) (k:Int),mrk (mrk x k) k=mrk x k
  c2:∀ (x:α) (k:Int),cntI (mrkI x k)=cntI x
  i2:∀ (x:α) (k:Int),mrkI (mrkI x k) k=mrkI x k
instance:ZoE Int:=⟨fun _ _=>rfl,fun _ _=>rfl,fun _ _=>rfl,fun _ _=>rfl⟩
instance:ZoE Bool:=⟨fun _ _=>rfl,fun _ _=>rfl,fun _ _=>rfl,fun _ _=>rfl⟩
instance:ZoE ByteArray:=⟨fun _ _=>rfl,fun _ _=>rfl,fun _ _=>rfl,fun _ _=>rfl⟩
instance {α β:Type} [GoMark α] [GoMark β] [ZoE α] [ZoE β]:ZoE (α × β) where
  c1 x k:=by rw [gx5,gk5,gk5,ZoE.c1,ZoE.c1]
  i1 x k:=by
    rw [gx5 x k,gx5]
    refine Prod.ext (ZoE.i1 _ _) ?_
    show mrk (mrk x.2 (k + cnt x.1)) (k + cnt (mrk x.1 k))=_
    rw [ZoE.c1,ZoE.i1]
  c2 x k:=by rw [gm5,gc5,gc5,ZoE.c2,ZoE.c2]
  i2 x k:=by
    rw [gm5 x k,gm5]
    refine Prod.ext (ZoE.i2 _ _) ?_
    show mrkI (mrkI x.2 (k + cntI x.1)) (k + cntI (mrkI x.1 k))=_
    rw [ZoE.c2,ZoE.i2]
theorem ZoF {α:Type} [GoMark α] [ZoE α]:∀ (xs:List α) (k:Int),ZG4 (ZoJ xs k)=ZG4 xs
  | [],_=>rfl
  | x :: xs,k=>by unfold ZoJ ZG4; rw [ZoE.c1,ZoF xs]
theorem Zlv {α:Type} [GoMark α] [ZoE α]:∀ (xs:List α) (k:Int),ZoJ (ZoJ xs k) k=ZoJ xs k
  | [],_=>rfl
  | x :: xs,k=>by
    show mrk (mrk x k) k :: ZoJ (ZoJ xs (k + cnt x)) (k + cnt (mrk x k))=mrk x k :: ZoJ xs (k + cnt x)
    rw [ZoE.c1,ZoE.i1,Zlv xs]
instance {α:Type} [GoMark α] [ZoE α]:ZoE (List α):=⟨ZoF,Zlv,ZoF,Zlv⟩
class Zo3 (α:Type) [GoMark α] [GoRep α] where
  A:Nat
  h1:∀ x:α,cnt x≤A * (1 + bulk x)
  h2:∀ x:α,cntI x≤A * (1 + bulk x)
@[reducible] instance:Zo3 Int:=⟨1,fun x=>by rw [gk1]; omega,fun x=>by rw [gc1]; omega⟩
@[reducible] instance:Zo3 Bool:=⟨1,fun x=>by rw [gk2]; omega,fun x=>by rw [gc2]; omega⟩
@[reducible] instance:Zo3 ByteArray:=⟨1,fun x=>by rw [gk3]; omega,fun x=>by rw [gc3]; omega⟩
theorem ZEF {a b x y p q:Nat} (h:p≤a * (1 + x)) (k:q≤b * (1 + y)):p + q≤(a + b) * (1 + (x + y)):=by
  have e1:a * (1 + x)≤a * (1 + (x + y)):=Nat.mul_le_mul_left _ (by omega)
  have e2:b * (1 + y)≤b * (1 + (x + y)):=Nat.mul_le_mul_left _ (by omega)
  rw [Nat.add_mul]
  omega
@[reducible] instance {α β:Type} [GoMark α] [GoMark β] [GoRep α] [GoRep β] [Zo3 α] [Zo3 β]:Zo3 (α × β) :=
  ⟨Zo3.A α + Zo3.A β,fun x=>by rw [gk5]; exact ZEF (Zo3.h1 x.1) (Zo3.h1 x.2),fun x=>by rw [gc5]; exact ZEF (Zo3.h2 x.1) (Zo3.h2 x.2)⟩
theorem ZzD {α:Type} [GoMark α] [GoRep α] [Zo3 α]:∀ xs:List α,ZG4 xs≤Zo3.A α * (xs.length + Zar xs)
  | []=>Nat.zero_le _
  | x :: xs=>by
    have h1:=Zo3.h1 x
    have h2:=ZzD xs
    have e:Zo3.A α * ((x :: xs).length + Zar (x :: xs))=Zo3.A α * (1 + bulk x) + Zo3.A α * (xs.length + Zar xs):=by
      rw [← Nat.mul_add]
      congr 1
      rw [List.length_cons]
      show xs.length + 1 + (bulk x + Zar xs)=_
      omega
    rw [e]
    show cnt x + ZG4 xs≤_
    omega
@[reducible] instance {α:Type} [GoMark α] [GoRep α] [Zo3 α]:Zo3 (List α) :=
  ⟨Zo3.A α,fun x=>Nat.le_trans (ZzD x) (Nat.mul_le_mul_left _ (by show _≤1 + (x.length + Zar x); omega)),fun x=>Nat.le_trans (ZzD x) (Nat.mul_le_mul_left _ (by show _≤1 + (x.length + Zar x); omega))⟩
end Go.Proofs.YtkompmgleojmlaaGreat
