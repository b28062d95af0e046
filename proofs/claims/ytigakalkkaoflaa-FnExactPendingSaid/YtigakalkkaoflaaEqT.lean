/-
  Equality of the program's structs, by the operators == and !=.
  No condition. Printed by gen_slices.py.
-/
import Derived.Test.YtigakalkkaoflaaLists
import Derived.Laws.StructEq
namespace Go.Proofs.Ytigakalkkaoflaa
open Go.ChangeShapes Go.WideShapes Go.ChangeAt Go.RowKit Go.Joins Go.Deep
open GoRep (rep bulk)
theorem toList_inj (x y : ByteArray) : (x.toList = y.toList) = (x = y) := by
  rw [eq_iff_iff, ByteArray.toList_eq, ByteArray.toList_eq]
  exact ⟨fun h => ByteArray.ext (Array.toList_inj.1 h), fun h => by rw [h]⟩

@[go_sem high] theorem eql_Note (x1 y1 : Int) (x2 y2 : Int) (x3 y3 : Int) (x4 y4 : ByteArray) (w : World) :
    (binOp .eql 164 (.agg #[.int .i64 x1, .int .i64 x2, .int .i64 x3, .string x4]) (.agg #[.int .i64 y1, .int .i64 y2, .int .i64 y3, .string y4])).run Try.prog w = .ok (.bool (eqB ((x1, x2, x3, x4) : GNote) (y1, y2, y3, y4))) w := by
  have hS : Try.prog.underlying 164 = some (.struct (Try.prog.fieldsOf 164)) := by kernel_rfl
  have hp : Try.prog.stoodInHeld 164 = false := by kernel_rfl
  rw [run_eql_struct, show (10000 : Nat) = 9999 + 1 from rfl, run_equalIn_agg w 9999 164 _ _ hS hp]
  simp only [Program.fieldsOf, Try.underlying164]
  go_simp
  simp only [toList_inj, eqB, Prod.mk.injEq]
  (repeat' split) <;> simp_all
@[go_sem high] theorem neq_Note (x1 y1 : Int) (x2 y2 : Int) (x3 y3 : Int) (x4 y4 : ByteArray) (w : World) :
    (binOp .neq 164 (.agg #[.int .i64 x1, .int .i64 x2, .int .i64 x3, .string x4]) (.agg #[.int .i64 y1, .int .i64 y2, .int .i64 y3, .string y4])).run Try.prog w = .ok (.bool (!eqB ((x1, x2, x3, x4) : GNote) (y1, y2, y3, y4))) w := by
  have hS : Try.prog.underlying 164 = some (.struct (Try.prog.fieldsOf 164)) := by kernel_rfl
  have hp : Try.prog.stoodInHeld 164 = false := by kernel_rfl
  rw [run_neq_struct, show (10000 : Nat) = 9999 + 1 from rfl, run_equalIn_agg w 9999 164 _ _ hS hp]
  simp only [Program.fieldsOf, Try.underlying164]
  go_simp
  simp only [toList_inj, eqB, Prod.mk.injEq]
  (repeat' split) <;> simp_all
theorem eqGuard_Note : Try.prog.eqGuardType Try.prog.depth 164 = false := by kernel_rfl

@[go_sem high] theorem eql_Seen (x1 y1 : Int) (x2 y2 : Int) (w : World) :
    (binOp .eql 173 (.agg #[.int .i64 x1, .int .i64 x2]) (.agg #[.int .i64 y1, .int .i64 y2])).run Try.prog w = .ok (.bool (eqB ((x1, x2) : GSeen) (y1, y2))) w := by
  have hS : Try.prog.underlying 173 = some (.struct (Try.prog.fieldsOf 173)) := by kernel_rfl
  have hp : Try.prog.stoodInHeld 173 = false := by kernel_rfl
  rw [run_eql_struct, show (10000 : Nat) = 9999 + 1 from rfl, run_equalIn_agg w 9999 173 _ _ hS hp]
  simp only [Program.fieldsOf, Try.underlying173]
  go_simp
  simp only [eqB, Prod.mk.injEq]
  (repeat' split) <;> simp_all
@[go_sem high] theorem neq_Seen (x1 y1 : Int) (x2 y2 : Int) (w : World) :
    (binOp .neq 173 (.agg #[.int .i64 x1, .int .i64 x2]) (.agg #[.int .i64 y1, .int .i64 y2])).run Try.prog w = .ok (.bool (!eqB ((x1, x2) : GSeen) (y1, y2))) w := by
  have hS : Try.prog.underlying 173 = some (.struct (Try.prog.fieldsOf 173)) := by kernel_rfl
  have hp : Try.prog.stoodInHeld 173 = false := by kernel_rfl
  rw [run_neq_struct, show (10000 : Nat) = 9999 + 1 from rfl, run_equalIn_agg w 9999 173 _ _ hS hp]
  simp only [Program.fieldsOf, Try.underlying173]
  go_simp
  simp only [eqB, Prod.mk.injEq]
  (repeat' split) <;> simp_all
theorem eqGuard_Seen : Try.prog.eqGuardType Try.prog.depth 173 = false := by kernel_rfl

@[go_sem high] theorem eql_Commit (x1 y1 : Int) (x2 y2 : Int) (x3 y3 : Int) (x4 y4 : Int) (x5 y5 : ByteArray) (x6 y6 : ByteArray) (w : World) :
    (binOp .eql 212 (.agg #[.int .i64 x1, .int .i64 x2, .int .i64 x3, .int .i64 x4, .string x5, .string x6]) (.agg #[.int .i64 y1, .int .i64 y2, .int .i64 y3, .int .i64 y4, .string y5, .string y6])).run Try.prog w = .ok (.bool (eqB ((x1, x2, x3, x4, x5, x6) : GCommit) (y1, y2, y3, y4, y5, y6))) w := by
  have hS : Try.prog.underlying 212 = some (.struct (Try.prog.fieldsOf 212)) := by kernel_rfl
  have hp : Try.prog.stoodInHeld 212 = false := by kernel_rfl
  rw [run_eql_struct, show (10000 : Nat) = 9999 + 1 from rfl, run_equalIn_agg w 9999 212 _ _ hS hp]
  simp only [Program.fieldsOf, Try.underlying212]
  go_simp
  simp only [toList_inj, eqB, Prod.mk.injEq]
  (repeat' split) <;> simp_all
@[go_sem high] theorem neq_Commit (x1 y1 : Int) (x2 y2 : Int) (x3 y3 : Int) (x4 y4 : Int) (x5 y5 : ByteArray) (x6 y6 : ByteArray) (w : World) :
    (binOp .neq 212 (.agg #[.int .i64 x1, .int .i64 x2, .int .i64 x3, .int .i64 x4, .string x5, .string x6]) (.agg #[.int .i64 y1, .int .i64 y2, .int .i64 y3, .int .i64 y4, .string y5, .string y6])).run Try.prog w = .ok (.bool (!eqB ((x1, x2, x3, x4, x5, x6) : GCommit) (y1, y2, y3, y4, y5, y6))) w := by
  have hS : Try.prog.underlying 212 = some (.struct (Try.prog.fieldsOf 212)) := by kernel_rfl
  have hp : Try.prog.stoodInHeld 212 = false := by kernel_rfl
  rw [run_neq_struct, show (10000 : Nat) = 9999 + 1 from rfl, run_equalIn_agg w 9999 212 _ _ hS hp]
  simp only [Program.fieldsOf, Try.underlying212]
  go_simp
  simp only [toList_inj, eqB, Prod.mk.injEq]
  (repeat' split) <;> simp_all
theorem eqGuard_Commit : Try.prog.eqGuardType Try.prog.depth 212 = false := by kernel_rfl

@[go_sem high] theorem eql_Msg (x1 y1 : Int) (x2 y2 : Int) (x3 y3 : ByteArray) (w : World) :
    (binOp .eql 273 (.agg #[.int .i64 x1, .int .i64 x2, .string x3]) (.agg #[.int .i64 y1, .int .i64 y2, .string y3])).run Try.prog w = .ok (.bool (eqB ((x1, x2, x3) : GMsg) (y1, y2, y3))) w := by
  have hS : Try.prog.underlying 273 = some (.struct (Try.prog.fieldsOf 273)) := by kernel_rfl
  have hp : Try.prog.stoodInHeld 273 = false := by kernel_rfl
  rw [run_eql_struct, show (10000 : Nat) = 9999 + 1 from rfl, run_equalIn_agg w 9999 273 _ _ hS hp]
  simp only [Program.fieldsOf, Try.underlying273]
  go_simp
  simp only [toList_inj, eqB, Prod.mk.injEq]
  (repeat' split) <;> simp_all
@[go_sem high] theorem neq_Msg (x1 y1 : Int) (x2 y2 : Int) (x3 y3 : ByteArray) (w : World) :
    (binOp .neq 273 (.agg #[.int .i64 x1, .int .i64 x2, .string x3]) (.agg #[.int .i64 y1, .int .i64 y2, .string y3])).run Try.prog w = .ok (.bool (!eqB ((x1, x2, x3) : GMsg) (y1, y2, y3))) w := by
  have hS : Try.prog.underlying 273 = some (.struct (Try.prog.fieldsOf 273)) := by kernel_rfl
  have hp : Try.prog.stoodInHeld 273 = false := by kernel_rfl
  rw [run_neq_struct, show (10000 : Nat) = 9999 + 1 from rfl, run_equalIn_agg w 9999 273 _ _ hS hp]
  simp only [Program.fieldsOf, Try.underlying273]
  go_simp
  simp only [toList_inj, eqB, Prod.mk.injEq]
  (repeat' split) <;> simp_all
theorem eqGuard_Msg : Try.prog.eqGuardType Try.prog.depth 273 = false := by kernel_rfl

@[go_sem high] theorem eql_In (x1 y1 : ByteArray) (x2 y2 : Bool) (w : World) :
    (binOp .eql 65 (.agg #[.string x1, .bool x2]) (.agg #[.string y1, .bool y2])).run Try.prog w = .ok (.bool (eqB ((x1, x2) : GIn) (y1, y2))) w := by
  have hS : Try.prog.underlying 65 = some (.struct (Try.prog.fieldsOf 65)) := by kernel_rfl
  have hp : Try.prog.stoodInHeld 65 = false := by kernel_rfl
  rw [run_eql_struct, show (10000 : Nat) = 9999 + 1 from rfl, run_equalIn_agg w 9999 65 _ _ hS hp]
  simp only [Program.fieldsOf, Try.underlying65]
  go_simp
  simp only [toList_inj, eqB, Prod.mk.injEq]
  (repeat' split) <;> simp_all
@[go_sem high] theorem neq_In (x1 y1 : ByteArray) (x2 y2 : Bool) (w : World) :
    (binOp .neq 65 (.agg #[.string x1, .bool x2]) (.agg #[.string y1, .bool y2])).run Try.prog w = .ok (.bool (!eqB ((x1, x2) : GIn) (y1, y2))) w := by
  have hS : Try.prog.underlying 65 = some (.struct (Try.prog.fieldsOf 65)) := by kernel_rfl
  have hp : Try.prog.stoodInHeld 65 = false := by kernel_rfl
  rw [run_neq_struct, show (10000 : Nat) = 9999 + 1 from rfl, run_equalIn_agg w 9999 65 _ _ hS hp]
  simp only [Program.fieldsOf, Try.underlying65]
  go_simp
  simp only [toList_inj, eqB, Prod.mk.injEq]
  (repeat' split) <;> simp_all
theorem eqGuard_In : Try.prog.eqGuardType Try.prog.depth 65 = false := by kernel_rfl

@[go_sem high] theorem eql_Out (x1 y1 : ByteArray) (x2 y2 : ByteArray) (w : World) :
    (binOp .eql 66 (.agg #[.string x1, .string x2]) (.agg #[.string y1, .string y2])).run Try.prog w = .ok (.bool (eqB ((x1, x2) : GOut) (y1, y2))) w := by
  have hS : Try.prog.underlying 66 = some (.struct (Try.prog.fieldsOf 66)) := by kernel_rfl
  have hp : Try.prog.stoodInHeld 66 = false := by kernel_rfl
  rw [run_eql_struct, show (10000 : Nat) = 9999 + 1 from rfl, run_equalIn_agg w 9999 66 _ _ hS hp]
  simp only [Program.fieldsOf, Try.underlying66]
  go_simp
  simp only [toList_inj, eqB, Prod.mk.injEq]
  (repeat' split) <;> simp_all
@[go_sem high] theorem neq_Out (x1 y1 : ByteArray) (x2 y2 : ByteArray) (w : World) :
    (binOp .neq 66 (.agg #[.string x1, .string x2]) (.agg #[.string y1, .string y2])).run Try.prog w = .ok (.bool (!eqB ((x1, x2) : GOut) (y1, y2))) w := by
  have hS : Try.prog.underlying 66 = some (.struct (Try.prog.fieldsOf 66)) := by kernel_rfl
  have hp : Try.prog.stoodInHeld 66 = false := by kernel_rfl
  rw [run_neq_struct, show (10000 : Nat) = 9999 + 1 from rfl, run_equalIn_agg w 9999 66 _ _ hS hp]
  simp only [Program.fieldsOf, Try.underlying66]
  go_simp
  simp only [toList_inj, eqB, Prod.mk.injEq]
  (repeat' split) <;> simp_all
theorem eqGuard_Out : Try.prog.eqGuardType Try.prog.depth 66 = false := by kernel_rfl

@[go_sem high] theorem eql_Token (x1 y1 : Int) (x2 y2 : ByteArray) (w : World) :
    (binOp .eql 193 (.agg #[.int .i64 x1, .string x2]) (.agg #[.int .i64 y1, .string y2])).run Try.prog w = .ok (.bool (eqB ((x1, x2) : GToken) (y1, y2))) w := by
  have hS : Try.prog.underlying 193 = some (.struct (Try.prog.fieldsOf 193)) := by kernel_rfl
  have hp : Try.prog.stoodInHeld 193 = false := by kernel_rfl
  rw [run_eql_struct, show (10000 : Nat) = 9999 + 1 from rfl, run_equalIn_agg w 9999 193 _ _ hS hp]
  simp only [Program.fieldsOf, Try.underlying193]
  go_simp
  simp only [toList_inj, eqB, Prod.mk.injEq]
  (repeat' split) <;> simp_all
@[go_sem high] theorem neq_Token (x1 y1 : Int) (x2 y2 : ByteArray) (w : World) :
    (binOp .neq 193 (.agg #[.int .i64 x1, .string x2]) (.agg #[.int .i64 y1, .string y2])).run Try.prog w = .ok (.bool (!eqB ((x1, x2) : GToken) (y1, y2))) w := by
  have hS : Try.prog.underlying 193 = some (.struct (Try.prog.fieldsOf 193)) := by kernel_rfl
  have hp : Try.prog.stoodInHeld 193 = false := by kernel_rfl
  rw [run_neq_struct, show (10000 : Nat) = 9999 + 1 from rfl, run_equalIn_agg w 9999 193 _ _ hS hp]
  simp only [Program.fieldsOf, Try.underlying193]
  go_simp
  simp only [toList_inj, eqB, Prod.mk.injEq]
  (repeat' split) <;> simp_all
theorem eqGuard_Token : Try.prog.eqGuardType Try.prog.depth 193 = false := by kernel_rfl

@[go_sem high] theorem eql_Span (x1 y1 : Int) (x2 y2 : Int) (w : World) :
    (binOp .eql 247 (.agg #[.int .i64 x1, .int .i64 x2]) (.agg #[.int .i64 y1, .int .i64 y2])).run Try.prog w = .ok (.bool (eqB ((x1, x2) : GSpan) (y1, y2))) w := by
  have hS : Try.prog.underlying 247 = some (.struct (Try.prog.fieldsOf 247)) := by kernel_rfl
  have hp : Try.prog.stoodInHeld 247 = false := by kernel_rfl
  rw [run_eql_struct, show (10000 : Nat) = 9999 + 1 from rfl, run_equalIn_agg w 9999 247 _ _ hS hp]
  simp only [Program.fieldsOf, Try.underlying247]
  go_simp
  simp only [eqB, Prod.mk.injEq]
  (repeat' split) <;> simp_all
@[go_sem high] theorem neq_Span (x1 y1 : Int) (x2 y2 : Int) (w : World) :
    (binOp .neq 247 (.agg #[.int .i64 x1, .int .i64 x2]) (.agg #[.int .i64 y1, .int .i64 y2])).run Try.prog w = .ok (.bool (!eqB ((x1, x2) : GSpan) (y1, y2))) w := by
  have hS : Try.prog.underlying 247 = some (.struct (Try.prog.fieldsOf 247)) := by kernel_rfl
  have hp : Try.prog.stoodInHeld 247 = false := by kernel_rfl
  rw [run_neq_struct, show (10000 : Nat) = 9999 + 1 from rfl, run_equalIn_agg w 9999 247 _ _ hS hp]
  simp only [Program.fieldsOf, Try.underlying247]
  go_simp
  simp only [eqB, Prod.mk.injEq]
  (repeat' split) <;> simp_all
theorem eqGuard_Span : Try.prog.eqGuardType Try.prog.depth 247 = false := by kernel_rfl

end Go.Proofs.Ytigakalkkaoflaa
