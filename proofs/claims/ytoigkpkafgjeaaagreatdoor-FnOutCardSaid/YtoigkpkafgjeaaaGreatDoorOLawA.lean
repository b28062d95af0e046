/-
  Plain facts for the laws' helpers szX, toX, markX, heldX.
  Plain: no program. No condition.
-/
import Derived.Test.YtoigkpkafgjeaaaGreatDoorOBmTy
set_option linter.unusedSimpArgs false
set_option linter.unusedVariables false
namespace Go.Proofs.YtoigkpkafgjeaaaGreatDoor
open Go.ChangeShapes Go.WideShapes Go.ChangeAt Go.RowKit Go.Joins Go.Deep
open GoRep (rep bulk)
open GoMark (mrk cnt mrkI cntI)

theorem wrapD (x : Int) : (x < -9223372036854775808 ∨ 9223372036854775807 < x) ∨ IntKind.wrap .i64 x = x := by
  by_cases h : x < -9223372036854775808 ∨ 9223372036854775807 < x
  · exact .inl h
  · exact .inr (IntWalk.i64_in _ (by omega))
theorem wrapA {x : Int} (h0 : -9223372036854775808 ≤ x) (h1 : x ≤ 9223372036854775807) : IntKind.wrap .i64 x = x := IntWalk.i64_in _ (by omega)
theorem gm5 {α β : Type} [GoMark α] [GoMark β] (x : α × β) (k : Int) : mrkI x k = (mrkI x.1 k, mrkI x.2 (k + cntI x.1)) := rfl
theorem gc1 (x : Int) : cntI x = 0 := rfl
theorem gc2 (x : Bool) : cntI x = 0 := rfl
theorem gc3 (x : ByteArray) : cntI x = 0 := rfl
theorem gc5 {α β : Type} [GoMark α] [GoMark β] (x : α × β) : cntI x = cntI x.1 + cntI x.2 := rfl
theorem gk1 (x : Int) : cnt x = 1 := rfl
theorem gk2 (x : Bool) : cnt x = 1 := rfl
theorem gk3 (x : ByteArray) : cnt x = 1 := rfl
theorem gk5 {α β : Type} [GoMark α] [GoMark β] (x : α × β) : cnt x = cnt x.1 + cnt x.2 := rfl
theorem gx5 {α β : Type} [GoMark α] [GoMark β] (x : α × β) (k : Int) : mrk x k = (mrk x.1 k, mrk x.2 (k + cnt x.1)) := rfl
theorem nth_of_get {t : Ty} {xs : List t.den} {k : Nat} {x : t.den} (h : xs[k]? = some x) : nth t xs k = x := by
  have hk : k < xs.length := (List.getElem?_eq_some_iff.1 h).1
  rw [nth_getElem? hk] at h
  exact Option.some.inj h
/-- marking twice is marking once -/
class MkOk (α : Type) [GoMark α] : Prop where
  c1 : ∀ (x : α) (k : Int), cnt (mrk x k) = cnt x
  i1 : ∀ (x : α) (k : Int), mrk (mrk x k) k = mrk x k
  c2 : ∀ (x : α) (k : Int), cntI (mrkI x k) = cntI x
  i2 : ∀ (x : α) (k : Int), mrkI (mrkI x k) k = mrkI x k
instance : MkOk Int := ⟨fun _ _ => rfl, fun _ _ => rfl, fun _ _ => rfl, fun _ _ => rfl⟩
instance : MkOk Bool := ⟨fun _ _ => rfl, fun _ _ => rfl, fun _ _ => rfl, fun _ _ => rfl⟩
instance : MkOk ByteArray := ⟨fun _ _ => rfl, fun _ _ => rfl, fun _ _ => rfl, fun _ _ => rfl⟩
instance {α β : Type} [GoMark α] [GoMark β] [MkOk α] [MkOk β] : MkOk (α × β) where
  c1 x k := by rw [gx5, gk5, gk5, MkOk.c1, MkOk.c1]
  i1 x k := by
    rw [gx5 x k, gx5]
    refine Prod.ext (MkOk.i1 _ _) ?_
    show mrk (mrk x.2 (k + cnt x.1)) (k + cnt (mrk x.1 k)) = _
    rw [MkOk.c1, MkOk.i1]
  c2 x k := by rw [gm5, gc5, gc5, MkOk.c2, MkOk.c2]
  i2 x k := by
    rw [gm5 x k, gm5]
    refine Prod.ext (MkOk.i2 _ _) ?_
    show mrkI (mrkI x.2 (k + cntI x.1)) (k + cntI (mrkI x.1 k)) = _
    rw [MkOk.c2, MkOk.i2]
theorem markL_cnt {α : Type} [GoMark α] [MkOk α] : ∀ (xs : List α) (k : Int), cntL (markL xs k) = cntL xs
  | [], _ => rfl
  | x :: xs, k => by unfold markL cntL; rw [MkOk.c1, markL_cnt xs]
theorem markL_idem {α : Type} [GoMark α] [MkOk α] : ∀ (xs : List α) (k : Int), markL (markL xs k) k = markL xs k
  | [], _ => rfl
  | x :: xs, k => by
    show mrk (mrk x k) k :: markL (markL xs (k + cnt x)) (k + cnt (mrk x k)) = mrk x k :: markL xs (k + cnt x)
    rw [MkOk.c1, MkOk.i1, markL_idem xs]
instance {α : Type} [GoMark α] [MkOk α] : MkOk (List α) := ⟨markL_cnt, markL_idem, markL_cnt, markL_idem⟩
/-- how many marks a value takes, by its size -/
class MkBd (α : Type) [GoMark α] [GoRep α] where
  A : Nat
  h1 : ∀ x : α, cnt x ≤ A * (1 + bulk x)
  h2 : ∀ x : α, cntI x ≤ A * (1 + bulk x)
@[reducible] instance : MkBd Int := ⟨1, fun x => by rw [gk1]; omega, fun x => by rw [gc1]; omega⟩
@[reducible] instance : MkBd Bool := ⟨1, fun x => by rw [gk2]; omega, fun x => by rw [gc2]; omega⟩
@[reducible] instance : MkBd ByteArray := ⟨1, fun x => by rw [gk3]; omega, fun x => by rw [gc3]; omega⟩
theorem bd_pair {a b x y p q : Nat} (h : p ≤ a * (1 + x)) (k : q ≤ b * (1 + y)) : p + q ≤ (a + b) * (1 + (x + y)) := by
  have e1 : a * (1 + x) ≤ a * (1 + (x + y)) := Nat.mul_le_mul_left _ (by omega)
  have e2 : b * (1 + y) ≤ b * (1 + (x + y)) := Nat.mul_le_mul_left _ (by omega)
  rw [Nat.add_mul]
  omega
@[reducible] instance {α β : Type} [GoMark α] [GoMark β] [GoRep α] [GoRep β] [MkBd α] [MkBd β] : MkBd (α × β) :=
  ⟨MkBd.A α + MkBd.A β, fun x => by rw [gk5]; exact bd_pair (MkBd.h1 x.1) (MkBd.h1 x.2), fun x => by rw [gc5]; exact bd_pair (MkBd.h2 x.1) (MkBd.h2 x.2)⟩
theorem cntL_bd {α : Type} [GoMark α] [GoRep α] [MkBd α] : ∀ xs : List α, cntL xs ≤ MkBd.A α * (xs.length + bulkL xs)
  | [] => Nat.zero_le _
  | x :: xs => by
    have h1 := MkBd.h1 x
    have h2 := cntL_bd xs
    have e : MkBd.A α * ((x :: xs).length + bulkL (x :: xs)) = MkBd.A α * (1 + bulk x) + MkBd.A α * (xs.length + bulkL xs) := by
      rw [← Nat.mul_add]
      congr 1
      rw [List.length_cons]
      show xs.length + 1 + (bulk x + bulkL xs) = _
      omega
    rw [e]
    show cnt x + cntL xs ≤ _
    omega
@[reducible] instance {α : Type} [GoMark α] [GoRep α] [MkBd α] : MkBd (List α) :=
  ⟨MkBd.A α, fun x => Nat.le_trans (cntL_bd x) (Nat.mul_le_mul_left _ (by show _ ≤ 1 + (x.length + bulkL x); omega)), fun x => Nat.le_trans (cntL_bd x) (Nat.mul_le_mul_left _ (by show _ ≤ 1 + (x.length + bulkL x); omega))⟩
end Go.Proofs.YtoigkpkafgjeaaaGreatDoor
