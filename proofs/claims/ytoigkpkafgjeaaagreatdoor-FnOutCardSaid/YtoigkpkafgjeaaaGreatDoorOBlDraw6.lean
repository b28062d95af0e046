/-
  Several texts in one.
-/
import Derived.Test.YtoigkpkafgjeaaaGreatDoorOBlDraw4
set_option linter.unusedSimpArgs false
set_option linter.unusedVariables false
set_option maxRecDepth 100000
set_option maxHeartbeats 4000000
namespace Go.Proofs.YtoigkpkafgjeaaaGreatDoor
open Go.ChangeShapes Go.WideShapes Go.ChangeAt Go.RowKit Go.Joins Go.Deep
open GoRep (rep bulk)

def longB (n k : Nat) : List Int := List.replicate k 120 ++ List.replicate (n - k) 0
theorem longB_len {n k : Nat} (h : k ≤ n) : (longB n k).length = n := by unfold longB; rw [List.length_append, List.length_replicate, List.length_replicate]; omega
theorem longB_set {n k : Nat} (h : k < n) : List.set (longB n k) k 120 = longB n (k + 1) := by
  obtain ⟨m, hm⟩ : ∃ m, n - k = m + 1 := ⟨n - k - 1, by omega⟩
  unfold longB
  rw [hm, show n - (k + 1) = m by omega, List.replicate_succ, List.set_append_right _ _ (by simp)]
  simp [List.replicate_succ']
theorem longB_zero (n : Nat) : longB n 0 = List.replicate n 0 := by unfold longB; simp
def longS (n : Nat) : ByteArray := bytesOf (longB n n)
theorem longS_size (n : Nat) : (longS n).size = n := by unfold longS; rw [bytesOf_size, longB_len (Nat.le_refl _)]
def mid (n : Int) : Prop := 0 ≤ n ∧ n ≤ 1048576
def L_s_l17Long (n : Int) : Nat → List AV → Mem → LoopA
  | 3, tm, M => ⟨Nat, fun y => (anyR (setA tm [(4, .c (.int .i64 ((y : Nat) : Int)))]) 7 8, setM M [(0, .row (.int .u8) (longB (Int.toNat n) y) 0 0 none)]), fun y => (y ≤ Int.toNat n), fun y => (Int.toNat n - y)⟩
  | _, _, _ => ⟨Unit, fun _ => ([], []), fun _ => False, fun _ => 0⟩
theorem b_s_l17Long (n : Int) (hpre : mid n) : BCalls Tryz.prog 44 [.c (.int .i64 n)] (.c (.str (longS (Int.toNat n)))) [] := by
  refine bc0 [] [] [] [] (L_s_l17Long n) Tryz.func44 (fun hwf => ?_)
  refine Eq.mpr (β := (T2 (((n : Int) = n ∧ (0 : Int) ≤ n ∧ (n : Int) ≤ ((rowMax : Nat) : Int)) ∧ (T2 ((∃ q : Nat, (q ≤ Int.toNat n) ∧ ((lxs [.c (.int .i64 n), .tp [], .c (.str (⟨#[]⟩ : ByteArray)), .c (.row 0 0)] (leV (.c (.int .i64 0)) (.c (.int .i64 ((q : Nat) : Int))) ∧ lxs [.c (.int .i64 n), .c (.row 0 0)] (TN 8 (lxs [.tp [], .tp []] True)))) ∧ (leB (.row (.int .u8) (List.replicate (Int.toNat n) (0 : Int)) 0 0 none) (.row (.int .u8) (longB (Int.toNat n) q) 0 0 none) ∧ True) ∧ true = true)) ∧ ∀ y0 : Nat, (y0 ≤ Int.toNat n) → (T3 (bif (ltI ((y0 : Nat) : Int) n) then (T2 (((1 : Nat) = 1 ∧ (0 : Int) ≤ ((y0 : Nat) : Int) ∧ (((y0 : Nat) : Int) : Int) < ((List.length (longB (Int.toNat n) y0) : Nat) : Int)) ∧ (True ∧ ∀ r1 : List Int, r1 = (List.set (longB (Int.toNat n) y0) (Int.toNat ((y0 : Nat) : Int)) 120) → (T3 (∃ y0' : Nat, (y0' ≤ Int.toNat n) ∧ (Int.toNat n - y0') < (Int.toNat n - y0) ∧ ((lxs [.c (.int .i64 n), .tp [], .c (.str (⟨#[]⟩ : ByteArray)), .c (.row 0 0)] (leV (.c (.int .i64 (IntKind.wrap .i64 (((y0 : Nat) : Int) + 1)))) (.c (.int .i64 ((y0' : Nat) : Int))) ∧ lxs [.c (.int .i64 n), .c (.row 0 0)] (TN 8 (lxs [.tp [], .tp []] True)))) ∧ (leB (.row (.int .u8) r1 0 0 none) (.row (.int .u8) (longB (Int.toNat n) y0') 0 0 none) ∧ True) ∧ true = true)))))) else (True ∧ (List.length (longB (Int.toNat n) y0) ≤ maxLen ∧ (True ∧ (rS (bytesOf (longB (Int.toNat n) y0)) (longS (Int.toNat n))))))))))))) (by kernel_rfl) ?_
  unfold T2 T3
  obtain ⟨p1, p2⟩ := hpre
  simp only [leB_rowU8, SI2A, eq_self]
  repeat' (with_reducible first | exact trivial | apply And.intro | intro _)
  all_goals first
    | (with_reducible trivial)
    | omega
    | (with_reducible assumption)
    | (unfold rowMax; omega)
    | (refine ⟨0, Nat.zero_le _, rfl, ?_⟩; rw [longB_zero]; exact Eq.mpr leB_refl trivial)
    | (rw [longB_len (by assumption)]; omega)
    | (rw [longB_len (by assumption)]; unfold maxLen; omega)
    | (rename_i y hy hlt; refine ⟨y + 1, by omega, by omega, wrapN (by unfold maxLen; omega), ?_⟩; subst_vars; exact longB_set (by omega))
    | (rename_i y hy hlt r hr; refine ⟨y + 1, by omega, by omega, wrapN (by unfold maxLen; omega), ?_⟩; rw [hr]; exact longB_set (by omega))
    | (rename_i y hy hge; obtain rfl : y = Int.toNat n := by omega
       rfl)
def e_s_l17Long : Entry Tryz.prog := ⟨44, [.v tyInt], fun x => mid x.1, fun x => .c (.str (longS (Int.toNat x.1))), fun _ => [], fun x hx => b_s_l17Long x.1 hx, Tryz.call44⟩
end Go.Proofs.YtoigkpkafgjeaaaGreatDoor
set_option linter.unusedSimpArgs false
set_option linter.unusedVariables false
set_option maxRecDepth 100000
set_option maxHeartbeats 4000000
namespace Go.Proofs.YtoigkpkafgjeaaaGreatDoor
open Go.ChangeShapes Go.WideShapes Go.ChangeAt Go.RowKit Go.Joins Go.Deep
open GoRep (rep bulk)

def hashN (code : List Int) : Nat → Int
  | 0 => IntKind.wrap .i64 (28544 + ((List.length code : Nat) : Int))
  | k + 1 => IntKind.wrap .i64 (((BitVec.ofInt (IntKind.bits .i64) (IntKind.wrap .i64 (IntKind.wrap .i64 (IntKind.wrap .i64 (hashN code k * 131) + IntKind.wrap .i64 (nth (.int .u8) code k)) + 7)) &&& BitVec.ofInt (IntKind.bits .i64) 1073741823).toNat : Nat))
def newC (code : List Int) : GCur := (code, 0, hashN code (min code.length 4000))
theorem newC_ok {code : List Int} (h : code.length ≤ maxLen) : CurOk (newC code) := ⟨Int.le_refl _, Int.natCast_nonneg _, h⟩
def L_s_l1New (code : List Int) : Nat → List AV → Mem → LoopA
  | 3, tm, M => ⟨Nat, fun y => (anyR (setA tm [(3, .c (.int .i64 (hashN code y))), (4, .c (.int .i64 ((y : Nat) : Int)))]) 8 20, M), fun y => (y ≤ List.length code ∧ y ≤ 4000), fun y => (List.length code - y)⟩
  | _, _, _ => ⟨Unit, fun _ => ([], []), fun _ => False, fun _ => 0⟩
def k0onu1v (code : List Int) (y0 : Nat) : Prop := (T5 ((((true = true ∧ leC (.hs .no (.int .u8) code) (.hs .no (.int .u8) (newC code).1)) ∧ (true = true ∧ leC (.int .i64 0) (.int .i64 (newC code).2.1)) ∧ (true = true ∧ leC (.int .i64 (hashN code y0)) (.int .i64 (newC code).2.2)) ∧ True)) ∧ true = true))
theorem b_s_l1New (code : List Int) : BCalls Tryz.prog 20 [.c (.hs .no (.int .u8) code)] (.c (.bp 0 0)) [.box [.hs .no (.int .u8) (newC code).1, .int .i64 (newC code).2.1, .int .i64 (newC code).2.2]] := by
  refine bc0 [] [] [] [] (L_s_l1New code) Tryz.func20 (fun hwf => ?_)
  refine Eq.mpr (β := (T6 ((∃ q : Nat, (q ≤ List.length code ∧ q ≤ 4000) ∧ ((lxs [.c (.hs .no (.int .u8) code), .tp [], .c (.raw (.pointer none))] (leV (.c (.int .i64 (IntKind.wrap .i64 (28544 + ((List.length code : Nat) : Int))))) (.c (.int .i64 (hashN code q))) ∧ leV (.c (.int .i64 0)) (.c (.int .i64 ((q : Nat) : Int))) ∧ lxs [.c (.hs .no (.int .u8) code), .c (.int .i64 ((List.length code : Nat) : Int)), .c (.int .i64 (IntKind.wrap .i64 (28544 + ((List.length code : Nat) : Int))))] (TN 20 (lxs [.tp [], .tp [], .tp [], .tp []] True)))) ∧ (True) ∧ true = true)) ∧ ∀ y0 : Nat, (y0 ≤ List.length code ∧ y0 ≤ 4000) → (T5 (bif (ltI ((y0 : Nat) : Int) ((List.length code : Nat) : Int)) then (T3 (bif (ltI ((y0 : Nat) : Int) 4000) then (T4 (((1 : Nat) = 1 ∧ (0 : Int) ≤ ((y0 : Nat) : Int) ∧ (((y0 : Nat) : Int) : Int) < ((List.length code : Nat) : Int)) ∧ (True ∧ (true = true ∧ (T7 (∃ y0' : Nat, (y0' ≤ List.length code ∧ y0' ≤ 4000) ∧ (List.length code - y0') < (List.length code - y0) ∧ ((lxs [.c (.hs .no (.int .u8) code), .tp [], .c (.raw (.pointer none))] (leV (.c (.int .i64 (IntKind.wrap .i64 (((BitVec.ofInt (IntKind.bits .i64) (IntKind.wrap .i64 ((IntKind.wrap .i64 ((IntKind.wrap .i64 ((hashN code y0) * 131)) + (IntKind.wrap .i64 (nth (.int .u8) code (Int.toNat ((y0 : Nat) : Int)))))) + 7)) &&& BitVec.ofInt (IntKind.bits .i64) 1073741823).toNat : Nat))))) (.c (.int .i64 (hashN code y0'))) ∧ leV (.c (.int .i64 (IntKind.wrap .i64 (((y0 : Nat) : Int) + 1)))) (.c (.int .i64 ((y0' : Nat) : Int))) ∧ lxs [.c (.hs .no (.int .u8) code), .c (.int .i64 ((List.length code : Nat) : Int)), .c (.int .i64 (IntKind.wrap .i64 (28544 + ((List.length code : Nat) : Int))))] (TN 20 (lxs [.tp [], .tp [], .tp [], .tp []] True)))) ∧ (True) ∧ true = true))))))) else (k0onu1v code y0))) else (True ∧ (k0onu1v code y0))))))) (by kernel_rfl) ?_
  unfold k0onu1v T3 T4 T5 T6 T7
  have hm : List.length code ≤ maxLen := hwf.1.1
  unfold maxLen at hm
  simp only [cuE_eq, cu_eq, leB_cur, SI2A, eq_self]
  repeat' (with_reducible first | exact trivial | apply And.intro | intro _)
  all_goals first
    | (with_reducible trivial)
    | omega
    | (with_reducible assumption)
    | exact ⟨0, ⟨Nat.zero_le _, Nat.zero_le _⟩, rfl, rfl⟩
    | (rename_i y hy _ _; exact ⟨y + 1, ⟨by omega, by omega⟩, by omega, rfl, wrapN (by unfold maxLen; omega)⟩)
    | exact leC_refl
    | rfl
    | (rename_i y hy _ _; show _ = hashN code (min _ _); rw [show min (List.length code) 4000 = y by omega])
    | (rename_i y hy _; show _ = hashN code (min _ _); rw [show min (List.length code) 4000 = y by omega])
def e_s_l1New : Entry Tryz.prog := ⟨20, [.v (.list (.int .u8))], fun x => True, fun x => .c (.bp 0 0), fun x => [.box [.hs .no (.int .u8) (newC x.1).1, .int .i64 (newC x.1).2.1, .int .i64 (newC x.1).2.2]], fun x hx => b_s_l1New x.1, Tryz.call20⟩
end Go.Proofs.YtoigkpkafgjeaaaGreatDoor
