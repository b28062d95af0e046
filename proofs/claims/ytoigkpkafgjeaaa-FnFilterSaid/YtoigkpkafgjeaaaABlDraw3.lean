/-
  Draws of filters.
  No condition but what the arguments' cells hold. Printed by vcgen.py.
-/
import Derived.Test.YtoigkpkafgjeaaaABlDraw2
set_option linter.unusedSimpArgs false
set_option linter.unusedVariables false
set_option maxRecDepth 100000
set_option maxHeartbeats 4000000
namespace Go.Proofs.Ytoigkpkafgjeaaa
open Go.ChangeShapes Go.WideShapes Go.ChangeAt Go.RowKit Go.Joins Go.Deep
open GoRep (rep bulk)

def scope6 (c : GCur) : GScope × GCur := (bif (geI (IntKind.wrap .i64 (1 + (below c 4).1)) 3) then (bif (once (name2 (below (below c 4).2 15).2).2 3).1 then (((IntKind.wrap .i64 (1 + (below c 4).1)), ([(⟨#[97]⟩ : ByteArray), (⟨#[105, 110, 98, 111, 120]⟩ : ByteArray)], (IntKind.wrap .i64 (1 + (below (below c 4).2 15).1)))), (once (name2 (below (below c 4).2 15).2).2 3).2) else (((IntKind.wrap .i64 (1 + (below c 4).1)), ([(name2 (below (below c 4).2 15).2).1], (IntKind.wrap .i64 (1 + (below (below c 4).2 15).1)))), (once (name2 (below (below c 4).2 15).2).2 3).2)) else (((IntKind.wrap .i64 (1 + (below c 4).1)), (([] : List ByteArray), (IntKind.wrap .i64 (1 + (below (below c 4).2 15).1)))), (below (below c 4).2 15).2))
instance scope6_ok (c : GCur) [CurOk c] : CurOk (scope6 c).2 := by
  unfold scope6
  simp only [bif_if]
  repeat' split
  all_goals infer_instance
def k1q00zq (c : GCur) : Prop := (true = true ∧ leC (.int .i64 (IntKind.wrap .i64 (1 + (below (below c 4).2 15).1))) (.int .i64 (scope6 c).1.2.2))
def k2q00zq (c : GCur) : Prop := (true = true ∧ leC (.int .i64 (IntKind.wrap .i64 (1 + (below c 4).1))) (.int .i64 (scope6 c).1.1))
def k0q00zq (c : GCur) : Prop := (True ∧ ((True ∧ List.length ([(name2 (below (below c 4).2 15).2).1]) ≤ rowMax) ∧ (T3 ((cu (name2 (below (below c 4).2 15).2).2) ∧ (bif (once (name2 (below (below c 4).2 15).2).2 3).1 then (T5 (((((cuE (once (name2 (below (below c 4).2 15).2).2 3).2 (scope6 c).2)) ∧ True) ∧ (((k2q00zq c) ∧ (([(⟨#[97]⟩ : ByteArray), (⟨#[105, 110, 98, 111, 120]⟩ : ByteArray)]) = (scope6 c).1.2.1) ∧ (k1q00zq c) ∧ True))) ∧ true = true)) else (T2 (((((cuE (once (name2 (below (below c 4).2 15).2).2 3).2 (scope6 c).2)) ∧ True) ∧ (((k2q00zq c) ∧ (([(name2 (below (below c 4).2 15).2).1]) = (scope6 c).1.2.1) ∧ (k1q00zq c) ∧ True))) ∧ true = true)))))))
theorem m_s_l6Scope (c : GCur) (hpre : CurOk c) : MCalls Try.prog 60 (argsM 0 [(.b tyCur)] (c, ())) (preM 0 [(.b tyCur)] (c, ())) (postM 0 [(.b tyCur)] ((scope6 c).2, ()) ++ [.row tyStr (scope6 c).1.2.1 0 0 none]) (inpM 0 [(.b tyCur)]) (.ag [.int .i64 (scope6 c).1.1, .row 1 0, .int .i64 (scope6 c).1.2.2]) := by
  refine mcalls_of (T := ⟨[], [], [], [e_s_l1Below, e_s_l2Name, e_s_l1Once], none, fun _ => [], 1, [], []⟩) (L := L0) Try.func60 rfl rfl rfl (by kernel_rfl) (fun hwf hwm => ?_)
  refine Eq.mpr (β := (T2 ((cu c) ∧ (T2 ((cu (below c 4).2) ∧ (T7 (bif (geI (IntKind.wrap .i64 (1 + (below c 4).1)) 3) then ((true = true ∧ true = true) ∧ (True ∧ ((True ∧ ((True ∧ ((cu (below (below c 4).2 15).2) ∧ (k0q00zq c))) ∧ (((cu (below (below c 4).2 15).2) ∧ (True ∧ (k0q00zq c)))))) ∧ (((cu (below (below c 4).2 15).2) ∧ (T2 (k0q00zq c))))))) else (T2 (((((cuE (below (below c 4).2 15).2 (scope6 c).2)) ∧ True) ∧ (((k2q00zq c) ∧ ((scope6 c).1.2.1 = []) ∧ (k1q00zq c) ∧ True))) ∧ true = true))))))))) (by kernel_rfl) ?_
  unfold k0q00zq k2q00zq k1q00zq T2 T3 T5 T7
  simp only [SIU, cuE_eq, cu_eq, eq_self]
  repeat' (with_reducible first | exact trivial | apply And.intro | apply bifI | intro _)
  all_goals first
    | (with_reducible trivial)
    | omega
    | (with_reducible infer_instance)
    | (simp only [scope6, cond_true, cond_false, Int.toNat_natCast, *]; done)
    | (subst_vars; simp only [scope6, cond_true, cond_false, Int.toNat_natCast, *]; done)
    | (simp only [scope6, cond_true, cond_false, *]; exact leC_refl)
    | (simp only [List.length_singleton]; unfold rowMax; omega)
def e_s_l6Scope : MEntry Try.prog := ⟨60, [(.b tyCur)], fun x => CurOk x.1, fun x => ((scope6 x.1).2, ()), fun x => .ag [.int .i64 (scope6 x.1).1.1, .row 1 0, .int .i64 (scope6 x.1).1.2.2], fun x => [.row tyStr (scope6 x.1).1.2.1 0 0 none], fun x hx => m_s_l6Scope x.1 hx, Try.call60⟩
def scs6 (c : GCur) : Nat → List GScope × GCur
  | 0 => ([], c)
  | k + 1 => ((scs6 c k).1 ++ [(scope6 (scs6 c k).2).1], (scope6 (scs6 c k).2).2)
instance scs6_ok (c : GCur) [CurOk c] : ∀ k, CurOk (scs6 c k).2
  | 0 => by unfold scs6; infer_instance
  | k + 1 => by have := scs6_ok c k; unfold scs6; infer_instance
theorem scs6_len (c : GCur) : ∀ k, (scs6 c k).1.length = k
  | 0 => rfl
  | k + 1 => by unfold scs6; rw [List.length_append, scs6_len c k]; rfl
def right6 (c : GCur) : GFilter × GCur := bif (once c 5).1 then ((false, []), (below (once c 5).2 3).2) else ((true, (scs6 (below (once c 5).2 3).2 (Int.toNat (1 + (below (once c 5).2 3).1))).1), (scs6 (below (once c 5).2 3).2 (Int.toNat (1 + (below (once c 5).2 3).1))).2)
instance right6_ok (c : GCur) [CurOk c] : CurOk (right6 c).2 := by
  unfold right6
  simp only [bif_if]
  split <;> infer_instance
theorem right6_y {c : GCur} (h : (once c 5).1 = true) : right6 c = ((false, []), (below (once c 5).2 3).2) := by
  unfold right6
  rw [h]
  rfl
theorem right6_n {c : GCur} (h : (once c 5).1 = false) : right6 c = ((true, (scs6 (below (once c 5).2 3).2 (Int.toNat (1 + (below (once c 5).2 3).1))).1), (scs6 (below (once c 5).2 3).2 (Int.toNat (1 + (below (once c 5).2 3).1))).2) := by
  unfold right6
  rw [h]
  rfl
def L_s_l6Right (c : GCur) : Nat → List AV → Mem → LoopA
  | 4, tm, M => ⟨Nat, fun y => (anyR (setA tm [(5, .c (.int .i64 ((y : Nat) : Int)))]) 13 16, setM M [(0, .box [.hs .no (.int .u8) (scs6 (below (once c 5).2 3).2 y).2.1, .int .i64 (scs6 (below (once c 5).2 3).2 y).2.2.1, .int .i64 (scs6 (below (once c 5).2 3).2 y).2.2.2]), (2, .box [.bool (!(once c 5).1), .row 3 0]), (3, .row tyScope (scs6 (below (once c 5).2 3).2 y).1 0 0 none)]), fun y => (y ≤ Int.toNat (1 + (below (once c 5).2 3).1) ∧ (y = 0 ∨ (once c 5).1 = false)), fun y => (Int.toNat (1 + (below (once c 5).2 3).1) - y)⟩
  | _, _, _ => ⟨Unit, fun _ => ([], []), fun _ => False, fun _ => 0⟩
def k02m0hy (c : GCur) (y0 : Nat) : Prop := (True ∧ ((True ∧ List.length (scs6 (below (once c 5).2 3).2 y0).1 + List.length ([(scope6 (scs6 (below (once c 5).2 3).2 y0).2).1]) ≤ rowMax) ∧ (T5 (∃ y0' : Nat, (y0' ≤ Int.toNat (1 + (below (once c 5).2 3).1) ∧ (y0' = 0 ∨ (once c 5).1 = false)) ∧ (Int.toNat (1 + (below (once c 5).2 3).1) - y0') < (Int.toNat (1 + (below (once c 5).2 3).1) - y0) ∧ ((lxs [.c (.bp 0 0), .tp [], .c (.bp 1 0), .c (.bp 2 0), .c (.int .i64 (IntKind.wrap .i64 (1 + (below (once c 5).2 3).1)))] (leV (.c (.int .i64 (IntKind.wrap .i64 (((y0 : Nat) : Int) + 1)))) (.c (.int .i64 ((y0' : Nat) : Int))) ∧ lxs [.c (.bp 0 0), .c (.bool (once c 5).1), .c (.bool (!(once c 5).1)), .ag [.bool (!(once c 5).1), .raw (.slice none 0 0)], .c (.bp 0 0), .c (.int .i64 (below (once c 5).2 3).1), .c (.int .i64 (IntKind.wrap .i64 (1 + (below (once c 5).2 3).1)))] (TN 16 (lxs [.tp []] True)))) ∧ (leB (.box [.hs .no (.int .u8) (scope6 (scs6 (below (once c 5).2 3).2 y0).2).2.1, .int .i64 (scope6 (scs6 (below (once c 5).2 3).2 y0).2).2.2.1, .int .i64 (scope6 (scs6 (below (once c 5).2 3).2 y0).2).2.2.2]) (.box [.hs .no (.int .u8) (scs6 (below (once c 5).2 3).2 y0').2.1, .int .i64 (scs6 (below (once c 5).2 3).2 y0').2.2.1, .int .i64 (scs6 (below (once c 5).2 3).2 y0').2.2.2]) ∧ lb (.box [.bool false, .raw (.slice none 0 0)]) ∧ lb (.box [.bool (!(once c 5).1), .row 3 0]) ∧ leB (.row tyScope ((scs6 (below (once c 5).2 3).2 y0).1 ++ [(scope6 (scs6 (below (once c 5).2 3).2 y0).2).1]) 0 0 none) (.row tyScope (scs6 (below (once c 5).2 3).2 y0').1 0 0 none) ∧ True) ∧ true = true)))))
def k12m0hy (c : GCur) (y0 : Nat) : Prop := (T2 (((((cuE (scs6 (below (once c 5).2 3).2 y0).2 (right6 c).2)) ∧ True) ∧ (((true = true ∧ leC (.bool (!(once c 5).1)) (.bool (right6 c).1.1)) ∧ ((scs6 (below (once c 5).2 3).2 y0).1 = (right6 c).1.2) ∧ True))) ∧ true = true))
theorem m_s_l6Right (c : GCur) (hpre : CurOk c) : MCalls Try.prog 39 (argsM 0 [(.b tyCur)] (c, ())) (preM 0 [(.b tyCur)] (c, ())) (postM 0 [(.b tyCur)] ((right6 c).2, ()) ++ [.row tyScope (right6 c).1.2 0 0 none]) (inpM 0 [(.b tyCur)]) (.ag [.bool (right6 c).1.1, .row 1 0]) := by
  refine mcalls_of (T := ⟨[], [], [], [e_s_l1Once, e_s_l1Below, e_s_l6Scope], none, fun i => match i with | 4 => [⟨some 2, 1, tyScope⟩] | _ => [], 1, [], []⟩) (L := (L_s_l6Right c)) Try.func39 rfl rfl rfl (by kernel_rfl) (fun hwf hwm => ?_)
  refine Eq.mpr (β := (T2 ((cu c) ∧ (T5 ((cu (once c 5).2) ∧ (T3 ((∃ q : Nat, (q ≤ Int.toNat (1 + (below (once c 5).2 3).1) ∧ (q = 0 ∨ (once c 5).1 = false)) ∧ ((lxs [.c (.bp 0 0), .tp [], .c (.bp 1 0), .c (.bp 2 0), .c (.int .i64 (IntKind.wrap .i64 (1 + (below (once c 5).2 3).1)))] (leV (.c (.int .i64 0)) (.c (.int .i64 ((q : Nat) : Int))) ∧ lxs [.c (.bp 0 0), .c (.bool (once c 5).1), .c (.bool (!(once c 5).1)), .ag [.bool (!(once c 5).1), .raw (.slice none 0 0)], .c (.bp 0 0), .c (.int .i64 (below (once c 5).2 3).1), .c (.int .i64 (IntKind.wrap .i64 (1 + (below (once c 5).2 3).1)))] (TN 16 (lxs [.tp []] True)))) ∧ (leB (.box [.hs .no (.int .u8) (below (once c 5).2 3).2.1, .int .i64 (below (once c 5).2 3).2.2.1, .int .i64 (below (once c 5).2 3).2.2.2]) (.box [.hs .no (.int .u8) (scs6 (below (once c 5).2 3).2 q).2.1, .int .i64 (scs6 (below (once c 5).2 3).2 q).2.2.1, .int .i64 (scs6 (below (once c 5).2 3).2 q).2.2.2]) ∧ lb (.box [.bool false, .raw (.slice none 0 0)]) ∧ lb (.box [.bool (!(once c 5).1), .row 3 0]) ∧ leB (.row tyScope ([] : List GScope) 0 0 none) (.row tyScope (scs6 (below (once c 5).2 3).2 q).1 0 0 none) ∧ True) ∧ true = true)) ∧ ∀ y0 : Nat, (y0 ≤ Int.toNat (1 + (below (once c 5).2 3).1) ∧ (y0 = 0 ∨ (once c 5).1 = false)) → (T4 (bif (ltI ((y0 : Nat) : Int) (IntKind.wrap .i64 (1 + (below (once c 5).2 3).1))) then (T3 (bif (!(once c 5).1) then ((true = true ∧ true = true) ∧ (True ∧ ((True ∧ ((True ∧ ((cu (scs6 (below (once c 5).2 3).2 y0).2) ∧ (k02m0hy c y0))) ∧ (((cu (scs6 (below (once c 5).2 3).2 y0).2) ∧ ((True ∧ (k02m0hy c y0)) ∧ ((True ∧ (k02m0hy c y0)))))))) ∧ (((cu (scs6 (below (once c 5).2 3).2 y0).2) ∧ ((True ∧ ((True ∧ (k02m0hy c y0)) ∧ ((True ∧ (k02m0hy c y0))))) ∧ ((T2 (k02m0hy c y0))))))))) else (k12m0hy c y0))) else (True ∧ (k12m0hy c y0))))))))))) (by kernel_rfl) ?_
  unfold k12m0hy k02m0hy T2 T3 T4 T5
  have hb := below_b (c := (once c 5).2) (n := 3) (by decide)
  have w : IntKind.wrap .i64 (1 + (below (once c 5).2 3).1) = 1 + (below (once c 5).2 3).1 := w64i (by omega) (by omega)
  have hl := scs6_len (below (once c 5).2 3).2
  simp only [w]
  cases ho : (once c 5).1 with
  | true =>
    have e := right6_y ho
    rw [e]
    simp only [Bool.not_true, cuE_eq, cu_eq, leB_cur, SI2A, eq_self]
    repeat' (with_reducible first | exact trivial | apply And.intro | intro _)
    all_goals first
      | (with_reducible trivial)
      | omega
      | (with_reducible assumption)
      | infer_instance
      | exact ⟨0, ⟨Nat.zero_le _, .inl rfl⟩, rfl, rfl, rfl⟩
      | (exfalso; contradiction)
      | (simp only [hl, List.length_singleton]; unfold rowMax; omega)
      | (rename_i y hy _ _; exact ⟨y + 1, ⟨by omega, .inr rfl⟩, by omega, wrapN (by unfold maxLen; omega), rfl, rfl⟩)
      | (rename_i y hy _ _; exact ⟨y + 1, ⟨by omega, .inr trivial⟩, by omega, wrapN (by unfold maxLen; omega), rfl, rfl⟩)
      | (rename_i y hy _; obtain rfl : y = 0 := hy.2.resolve_right (by decide)
         rfl)
      | (rename_i y hy _; obtain rfl : y = Int.toNat (1 + (below (once c 5).2 3).1) := by omega
         rfl)
      | (rename_i y hy _ _; obtain rfl : y = 0 := hy.2.resolve_right (by decide)
         rfl)
  | false =>
    have e := right6_n ho
    rw [e]
    simp only [Bool.not_false, cuE_eq, cu_eq, leB_cur, SI2A, eq_self]
    repeat' (with_reducible first | exact trivial | apply And.intro | intro _)
    all_goals first
      | (with_reducible trivial)
      | omega
      | (with_reducible assumption)
      | infer_instance
      | exact ⟨0, ⟨Nat.zero_le _, .inl rfl⟩, rfl, rfl, rfl⟩
      | (exfalso; contradiction)
      | (simp only [hl, List.length_singleton]; unfold rowMax; omega)
      | (rename_i y hy _ _; exact ⟨y + 1, ⟨by omega, .inr rfl⟩, by omega, wrapN (by unfold maxLen; omega), rfl, rfl⟩)
      | (rename_i y hy _ _; exact ⟨y + 1, ⟨by omega, .inr trivial⟩, by omega, wrapN (by unfold maxLen; omega), rfl, rfl⟩)
      | (rename_i y hy _; obtain rfl : y = 0 := hy.2.resolve_right (by decide)
         rfl)
      | (rename_i y hy _; obtain rfl : y = Int.toNat (1 + (below (once c 5).2 3).1) := by omega
         rfl)
      | (rename_i y hy _ _; obtain rfl : y = 0 := hy.2.resolve_right (by decide)
         rfl)
def e_s_l6Right : MEntry Try.prog := ⟨39, [(.b tyCur)], fun x => CurOk x.1, fun x => ((right6 x.1).2, ()), fun x => .ag [.bool (right6 x.1).1.1, .row 1 0], fun x => [.row tyScope (right6 x.1).1.2 0 0 none], fun x hx => m_s_l6Right x.1 hx, Try.call39⟩
end Go.Proofs.Ytoigkpkafgjeaaa
