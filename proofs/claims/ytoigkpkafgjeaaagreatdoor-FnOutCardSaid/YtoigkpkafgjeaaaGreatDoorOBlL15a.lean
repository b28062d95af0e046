/-
  Draws of boxes.
  No condition but what the arguments' cells hold. Printed by vcgen.py.
-/
import Derived.Test.YtoigkpkafgjeaaaGreatDoorOBlDraw6
import Derived.Test.YtoigkpkafgjeaaaGreatDoorOBlRen
import Derived.Test.YtoigkpkafgjeaaaGreatDoorOBmFr
set_option linter.unusedSimpArgs false
set_option linter.unusedVariables false
set_option maxRecDepth 100000
set_option maxHeartbeats 4000000
namespace Go.Proofs.YtoigkpkafgjeaaaGreatDoor
open Go.ChangeShapes Go.WideShapes Go.ChangeAt Go.RowKit Go.Joins Go.Deep
open GoRep (rep bulk)

def bx9 (c : GCur) : Nat → Int × List GMsg × GCur
  | 0 => (1, [], c)
  | k + 1 => (IntKind.wrap .i64 (IntKind.wrap .i64 ((bx9 c k).1 + (below (bx9 c k).2.2 2).1) + 1), (bx9 c k).2.1 ++ [(IntKind.wrap .i64 ((bx9 c k).1 + (below (bx9 c k).2.2 2).1), (below (below (bx9 c k).2.2 2).2 32).1, (body7 (below (below (bx9 c k).2.2 2).2 32).2).1)], (body7 (below (below (bx9 c k).2.2 2).2 32).2).2)
instance bx9_ok (c : GCur) [CurOk c] : ∀ k, CurOk (bx9 c k).2.2
  | 0 => by unfold bx9; infer_instance
  | k + 1 => by have := bx9_ok c k; unfold bx9; infer_instance
theorem bx9_len (c : GCur) : ∀ k, (bx9 c k).2.1.length = k
  | 0 => rfl
  | k + 1 => by unfold bx9; rw [List.length_append, bx9_len c k]; rfl
def box9 (c : GCur) (nm : ByteArray) (v : Int) : GBox × GCur := ((nm, v, (bx9 (below c 6).2 (Int.toNat (below c 6).1)).1, (bx9 (below c 6).2 (Int.toNat (below c 6).1)).2.1), (bx9 (below c 6).2 (Int.toNat (below c 6).1)).2.2)
instance box9_ok (c : GCur) (nm : ByteArray) (v : Int) [CurOk c] : CurOk (box9 c nm v).2 := by unfold box9; infer_instance
theorem box9_len (c : GCur) (nm : ByteArray) (v : Int) : (box9 c nm v).1.2.2.2.length ≤ 5 := by
  have hb := below_b (c := c) (n := 6) (by decide)
  show (bx9 _ _).2.1.length ≤ 5
  rw [bx9_len]
  omega
def L_s_l9Box (c : GCur) (name : ByteArray) (v : Int) : Nat → List AV → Mem → LoopA
  | 4, tm, M => ⟨Nat, fun y => (anyR (setA tm [(9, .c (.int .i64 ((y : Nat) : Int)))]) 15 27, setM M [(0, .box [.hs .no (.int .u8) (bx9 (below c 6).2 y).2.2.1, .int .i64 (bx9 (below c 6).2 y).2.2.2.1, .int .i64 (bx9 (below c 6).2 y).2.2.2.2]), (2, .box [.str name, .int .i64 v, .int .i64 (bx9 (below c 6).2 y).1, .row 3 0]), (3, .row tyMsg (bx9 (below c 6).2 y).2.1 0 0 none)]), fun y => (y ≤ Int.toNat (below c 6).1), fun y => (Int.toNat (below c 6).1 - y)⟩
  | _, _, _ => ⟨Unit, fun _ => ([], []), fun _ => False, fun _ => 0⟩
def k0z8x9q (c : GCur) (y0 : Nat) (name : ByteArray) (v : Int) : Prop := (T2 ((True ∧ List.length (bx9 (below c 6).2 y0).2.1 + List.length ([((IntKind.wrap .i64 ((bx9 (below c 6).2 y0).1 + (below (bx9 (below c 6).2 y0).2.2 2).1)), ((below (below (bx9 (below c 6).2 y0).2.2 2).2 32).1, (body7 (below (below (bx9 (below c 6).2 y0).2.2 2).2 32).2).1))]) ≤ rowMax) ∧ (T10 (∃ y0' : Nat, (y0' ≤ Int.toNat (below c 6).1) ∧ (Int.toNat (below c 6).1 - y0') < (Int.toNat (below c 6).1 - y0) ∧ ((lxs [.c (.bp 0 0), .c (.str name), .c (.int .i64 v), .tp [], .tp [], .tp [], .c (.bp 1 0), .c (.bp 2 0), .c (.int .i64 (below c 6).1)] (leV (.c (.int .i64 (IntKind.wrap .i64 (((y0 : Nat) : Int) + 1)))) (.c (.int .i64 ((y0' : Nat) : Int))) ∧ lxs [.c (.str name), .c (.int .i64 v), .ag [.str name, .int .i64 v, .int .i64 1, .raw (.slice none 0 0)], .c (.bp 0 0), .c (.int .i64 (below c 6).1)] (TN 27 (lxs [.tp []] True)))) ∧ (leB (.box [.hs .no (.int .u8) (body7 (below (below (bx9 (below c 6).2 y0).2.2 2).2 32).2).2.1, .int .i64 (body7 (below (below (bx9 (below c 6).2 y0).2.2 2).2 32).2).2.2.1, .int .i64 (body7 (below (below (bx9 (below c 6).2 y0).2.2 2).2 32).2).2.2.2]) (.box [.hs .no (.int .u8) (bx9 (below c 6).2 y0').2.2.1, .int .i64 (bx9 (below c 6).2 y0').2.2.2.1, .int .i64 (bx9 (below c 6).2 y0').2.2.2.2]) ∧ lb (.box [.str (⟨#[]⟩ : ByteArray), .int .i64 0, .int .i64 0, .raw (.slice none 0 0)]) ∧ leB (.box [.str name, .int .i64 v, .int .i64 (IntKind.wrap .i64 ((IntKind.wrap .i64 ((bx9 (below c 6).2 y0).1 + (below (bx9 (below c 6).2 y0).2.2 2).1)) + 1)), .row 3 0]) (.box [.str name, .int .i64 v, .int .i64 (bx9 (below c 6).2 y0').1, .row 3 0]) ∧ leB (.row tyMsg ((bx9 (below c 6).2 y0).2.1 ++ [((IntKind.wrap .i64 ((bx9 (below c 6).2 y0).1 + (below (bx9 (below c 6).2 y0).2.2 2).1)), ((below (below (bx9 (below c 6).2 y0).2.2 2).2 32).1, (body7 (below (below (bx9 (below c 6).2 y0).2.2 2).2 32).2).1))]) 0 0 none) (.row tyMsg (bx9 (below c 6).2 y0').2.1 0 0 none) ∧ True) ∧ true = true)))))
def k2z8x9q (c : GCur) (y0 : Nat) (name : ByteArray) (v : Int) : Prop := ((True ∧ ((cu (below (below (bx9 (below c 6).2 y0).2.2 2).2 32).2) ∧ (k0z8x9q c y0 name v))) ∧ (((cu (below (below (bx9 (below c 6).2 y0).2.2 2).2 32).2) ∧ (True ∧ (k0z8x9q c y0 name v)))))
def k3z8x9q (c : GCur) (y0 : Nat) (name : ByteArray) (v : Int) : Prop := ((True ∧ (k2z8x9q c y0 name v)) ∧ (((cu (below (below (bx9 (below c 6).2 y0).2.2 2).2 32).2) ∧ (T2 (k0z8x9q c y0 name v)))))
def k4z8x9q (c : GCur) (y0 : Nat) (name : ByteArray) (v : Int) : Prop := (True ∧ ((True ∧ ((cu (below (bx9 (below c 6).2 y0).2.2 2).2) ∧ ((cu (below (below (bx9 (below c 6).2 y0).2.2 2).2 32).2) ∧ (k0z8x9q c y0 name v)))) ∧ (((cu (below (bx9 (below c 6).2 y0).2.2 2).2) ∧ (k2z8x9q c y0 name v)))))
def k5z8x9q (c : GCur) (y0 : Nat) (name : ByteArray) (v : Int) : Prop := ((cu (below (below (bx9 (below c 6).2 y0).2.2 2).2 32).2) ∧ (T3 (k0z8x9q c y0 name v)))
def k6z8x9q (c : GCur) (y0 : Nat) (name : ByteArray) (v : Int) : Prop := ((True ∧ (k2z8x9q c y0 name v)) ∧ (k3z8x9q c y0 name v))
def k1z8x9q (c : GCur) (y0 : Nat) (name : ByteArray) (v : Int) : Prop := (T3 ((true = true ∧ true = true) ∧ (T2 ((True ∧ ((True ∧ ((k4z8x9q c y0 name v) ∧ (((cu (below (bx9 (below c 6).2 y0).2.2 2).2) ∧ (k3z8x9q c y0 name v))))) ∧ ((True ∧ ((k4z8x9q c y0 name v) ∧ ((k4z8x9q c y0 name v) ∧ (((cu (below (bx9 (below c 6).2 y0).2.2 2).2) ∧ (k6z8x9q c y0 name v)))))) ∧ (((cu (below (bx9 (below c 6).2 y0).2.2 2).2) ∧ ((True ∧ (k3z8x9q c y0 name v)) ∧ ((True ∧ (k6z8x9q c y0 name v)) ∧ ((k5z8x9q c y0 name v))))))))) ∧ ((True ∧ ((True ∧ ((k4z8x9q c y0 name v) ∧ ((k4z8x9q c y0 name v) ∧ (((cu (below (bx9 (below c 6).2 y0).2.2 2).2) ∧ (k6z8x9q c y0 name v)))))) ∧ ((True ∧ ((k4z8x9q c y0 name v) ∧ (((cu (below (bx9 (below c 6).2 y0).2.2 2).2) ∧ (k3z8x9q c y0 name v))))) ∧ (((cu (below (bx9 (below c 6).2 y0).2.2 2).2) ∧ ((True ∧ (k6z8x9q c y0 name v)) ∧ ((True ∧ (k3z8x9q c y0 name v)) ∧ ((k5z8x9q c y0 name v))))))))) ∧ (((cu (below (bx9 (below c 6).2 y0).2.2 2).2) ∧ ((True ∧ ((True ∧ (k3z8x9q c y0 name v)) ∧ ((True ∧ (k6z8x9q c y0 name v)) ∧ ((k5z8x9q c y0 name v))))) ∧ ((True ∧ ((True ∧ (k6z8x9q c y0 name v)) ∧ ((True ∧ (k3z8x9q c y0 name v)) ∧ ((k5z8x9q c y0 name v))))) ∧ (((cu (below (below (bx9 (below c 6).2 y0).2.2 2).2 32).2) ∧ (T4 (k0z8x9q c y0 name v)))))))))))))
theorem m_s_l9Box (c : GCur) (name : ByteArray) (v : Int) (hpre : CurOk c) : MCalls Tryz.prog 78 (argsM 0 [(.b tyCur), (.a (.v tyStr)), (.a (.v tyInt))] (c, name, v, ())) (preM 0 [(.b tyCur), (.a (.v tyStr)), (.a (.v tyInt))] (c, name, v, ())) (postM 0 [(.b tyCur), (.a (.v tyStr)), (.a (.v tyInt))] ((box9 c name v).2, name, v, ()) ++ [.row tyMsg (box9 c name v).1.2.2.2 0 0 none]) (inpM 0 [(.b tyCur), (.a (.v tyStr)), (.a (.v tyInt))]) (.ag [.str (box9 c name v).1.1, .int .i64 (box9 c name v).1.2.1, .int .i64 (box9 c name v).1.2.2.1, .row 1 0]) := by
  refine mcalls_of (T := ⟨[], [], [], [e_s_l1Below, e_s_l7Body], none, fun i => match i with | 4 => [⟨some 2, 3, tyMsg⟩] | _ => [], 1, [], []⟩) (L := (L_s_l9Box c name v)) Tryz.func78 rfl rfl rfl (by kernel_rfl) (fun hwf hwm => ?_)
  refine Eq.mpr (β := (T7 ((cu c) ∧ (T2 ((∃ q : Nat, (q ≤ Int.toNat (below c 6).1) ∧ ((lxs [.c (.bp 0 0), .c (.str name), .c (.int .i64 v), .tp [], .tp [], .tp [], .c (.bp 1 0), .c (.bp 2 0), .c (.int .i64 (below c 6).1)] (leV (.c (.int .i64 0)) (.c (.int .i64 ((q : Nat) : Int))) ∧ lxs [.c (.str name), .c (.int .i64 v), .ag [.str name, .int .i64 v, .int .i64 1, .raw (.slice none 0 0)], .c (.bp 0 0), .c (.int .i64 (below c 6).1)] (TN 27 (lxs [.tp []] True)))) ∧ (leB (.box [.hs .no (.int .u8) (below c 6).2.1, .int .i64 (below c 6).2.2.1, .int .i64 (below c 6).2.2.2]) (.box [.hs .no (.int .u8) (bx9 (below c 6).2 q).2.2.1, .int .i64 (bx9 (below c 6).2 q).2.2.2.1, .int .i64 (bx9 (below c 6).2 q).2.2.2.2]) ∧ lb (.box [.str (⟨#[]⟩ : ByteArray), .int .i64 0, .int .i64 0, .raw (.slice none 0 0)]) ∧ leB (.box [.str name, .int .i64 v, .int .i64 1, .row 3 0]) (.box [.str name, .int .i64 v, .int .i64 (bx9 (below c 6).2 q).1, .row 3 0]) ∧ leB (.row tyMsg ([] : List GMsg) 0 0 none) (.row tyMsg (bx9 (below c 6).2 q).2.1 0 0 none) ∧ True) ∧ true = true)) ∧ ∀ y0 : Nat, (y0 ≤ Int.toNat (below c 6).1) → (T3 (bif (ltI ((y0 : Nat) : Int) (below c 6).1) then ((true = true ∧ true = true) ∧ (True ∧ ((True ∧ ((True ∧ ((cu (bx9 (below c 6).2 y0).2.2) ∧ (k1z8x9q c y0 name v))) ∧ (((cu (bx9 (below c 6).2 y0).2.2) ∧ (True ∧ (k1z8x9q c y0 name v)))))) ∧ (((cu (bx9 (below c 6).2 y0).2.2) ∧ (T2 (k1z8x9q c y0 name v))))))) else (T2 (((((cuE (bx9 (below c 6).2 y0).2.2 (box9 c name v).2)) ∧ True) ∧ (((true = true ∧ leC (.str name) (.str (box9 c name v).1.1)) ∧ (true = true ∧ leC (.int .i64 v) (.int .i64 (box9 c name v).1.2.1)) ∧ (true = true ∧ leC (.int .i64 (bx9 (below c 6).2 y0).1) (.int .i64 (box9 c name v).1.2.2.1)) ∧ ((bx9 (below c 6).2 y0).2.1 = (box9 c name v).1.2.2.2) ∧ True))) ∧ true = true))))))))) (by kernel_rfl) ?_
  unfold k1z8x9q k6z8x9q k5z8x9q k4z8x9q k3z8x9q k2z8x9q k0z8x9q T10 T2 T3 T4 T7
  have hb := below_b (c := c) (n := 6) (by decide)
  have hl := bx9_len (below c 6).2
  simp only [cuE_eq, cu_eq, leB_cur, SI2A, eq_self]
  repeat' (with_reducible first | exact trivial | apply And.intro | intro _)
  all_goals first
    | (with_reducible trivial)
    | omega
    | (with_reducible assumption)
    | infer_instance
    | (rw [hl]; simp only [List.length_singleton]; unfold rowMax; omega)
    | exact ⟨0, Nat.zero_le _, rfl, rfl, Eq.mpr leB_refl trivial, rfl⟩
    | (rename_i y hy hlt; exact ⟨y + 1, by omega, by omega, wrapN (by unfold maxLen; omega), rfl, Eq.mpr leB_refl trivial, rfl⟩)
    | rfl
    | (rename_i y hy hge; obtain rfl : y = Int.toNat (below c 6).1 := by omega
       rfl)
def e_s_l9Box : MEntry Tryz.prog := ⟨78, [(.b tyCur), (.a (.v tyStr)), (.a (.v tyInt))], fun x => CurOk x.1, fun x => ((box9 x.1 x.2.1 x.2.2.1).2, x.2.1, x.2.2.1, ()), fun x => .ag [.str (box9 x.1 x.2.1 x.2.2.1).1.1, .int .i64 (box9 x.1 x.2.1 x.2.2.1).1.2.1, .int .i64 (box9 x.1 x.2.1 x.2.2.1).1.2.2.1, .row 1 0], fun x => [.row tyMsg (box9 x.1 x.2.1 x.2.2.1).1.2.2.2 0 0 none], fun x hx => m_s_l9Box x.1 x.2.1 x.2.2.1 hx, Tryz.call78⟩
end Go.Proofs.YtoigkpkafgjeaaaGreatDoor
