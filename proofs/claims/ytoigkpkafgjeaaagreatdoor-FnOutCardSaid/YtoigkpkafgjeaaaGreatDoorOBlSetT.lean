/-
  Several texts in one.
-/
import Derived.Test.YtoigkpkafgjeaaaGreatDoorOBlPart
import Derived.Test.YtoigkpkafgjeaaaGreatDoorONumLaw
import Derived.Test.YtoigkpkafgjeaaaGreatDoorOLawA
set_option linter.unusedSimpArgs false
set_option linter.unusedVariables false
set_option maxRecDepth 100000
set_option maxHeartbeats 4000000
namespace Go.Proofs.YtoigkpkafgjeaaaGreatDoor
open Go.ChangeShapes Go.WideShapes Go.ChangeAt Go.RowKit Go.Joins Go.Deep
open GoRep (rep bulk)

theorem SIU : type_of% (And.intro @ix_eq (And.intro @vI_eq (And.intro @cI_eq (And.intro @cB_eq (And.intro @cS_eq (And.intro @w64_eq (And.intro @tpn_eq (And.intro @ci_eq (And.intro @hn_eq (And.intro @pt_eq (And.intro @T2_eq (And.intro @T3_eq (And.intro @T4_eq (And.intro @T5_eq (And.intro @T6_eq (And.intro @T7_eq (And.intro @T8_eq (And.intro @T9_eq (And.intro @T10_eq (And.intro @T11_eq (And.intro @T12_eq (And.intro @TN_eq (And.intro @lxs_eq (And.intro @lb_true (And.intro @rB_eq (And.intro @rI_eq (And.intro @rS_eq (And.intro @leB_mp (And.intro @true_and (And.intro @and_true (And.intro @not_true (And.intro @not_false (And.intro @leV_any (And.intro @leV_int (And.intro @leV_bool (And.intro @leV_str (And.intro @leV_refl (And.intro @leB_refl (And.intro @leC_int (And.intro @leC_bool (And.intro @leC_str (And.intro @leC_hs (And.intro @leB_row (And.intro @leB_rowInt (And.intro @leB_rowStr (And.intro @leB_rowBool (And.intro @leB_rowToken (And.intro @leB_rowSpan (And.intro @leB_rowScope (And.intro @leB_rowFilter (And.intro @leB_rowCommand (And.intro @leB_rowMsg (And.intro @leB_rowBox (And.intro @leB_rowCommit (And.intro @leB_rowStore (And.intro @leB_rowClient (And.intro @leB_rowNote (And.intro @leB_rowQueue (And.intro @leB_rowOut (And.intro @leB_rowIn (And.intro @leB_rowSession (And.intro @leB_rowServer (And.intro @leB_rowOutcome (@Int.toNat_natCast)))))))))))))))))))))))))))))))))))))))))))))))))))))))))))))))) := And.intro @ix_eq (And.intro @vI_eq (And.intro @cI_eq (And.intro @cB_eq (And.intro @cS_eq (And.intro @w64_eq (And.intro @tpn_eq (And.intro @ci_eq (And.intro @hn_eq (And.intro @pt_eq (And.intro @T2_eq (And.intro @T3_eq (And.intro @T4_eq (And.intro @T5_eq (And.intro @T6_eq (And.intro @T7_eq (And.intro @T8_eq (And.intro @T9_eq (And.intro @T10_eq (And.intro @T11_eq (And.intro @T12_eq (And.intro @TN_eq (And.intro @lxs_eq (And.intro @lb_true (And.intro @rB_eq (And.intro @rI_eq (And.intro @rS_eq (And.intro @leB_mp (And.intro @true_and (And.intro @and_true (And.intro @not_true (And.intro @not_false (And.intro @leV_any (And.intro @leV_int (And.intro @leV_bool (And.intro @leV_str (And.intro @leV_refl (And.intro @leB_refl (And.intro @leC_int (And.intro @leC_bool (And.intro @leC_str (And.intro @leC_hs (And.intro @leB_row (And.intro @leB_rowInt (And.intro @leB_rowStr (And.intro @leB_rowBool (And.intro @leB_rowToken (And.intro @leB_rowSpan (And.intro @leB_rowScope (And.intro @leB_rowFilter (And.intro @leB_rowCommand (And.intro @leB_rowMsg (And.intro @leB_rowBox (And.intro @leB_rowCommit (And.intro @leB_rowStore (And.intro @leB_rowClient (And.intro @leB_rowNote (And.intro @leB_rowQueue (And.intro @leB_rowOut (And.intro @leB_rowIn (And.intro @leB_rowSession (And.intro @leB_rowServer (And.intro @leB_rowOutcome (@Int.toNat_natCast)))))))))))))))))))))))))))))))))))))))))))))))))))))))))))))))
theorem bifI {b : Bool} {P Q : Prop} (h : b = true → P) (k : b = false → Q) : bif b then P else Q := by
  cases b
  · exact k rfl
  · exact h rfl
theorem bif_if {α : Type} {b : Bool} {x y : α} : (bif b then x else y) = if b = true then x else y := by cases b <;> rfl
theorem leB_rowU8 {x y : List Int} {v c : Nat} : leB (.row (.int .u8) x v c none) (.row (.int .u8) y v c none) = (x = y) := leB_row (t := .int .u8)
def atCh (x : Int) : Prop := (33 ≤ x ∧ x ≤ 126) ∧ ((x ≠ 40 ∧ x ≠ 41) ∧ (x ≠ 123 ∧ (x ≠ 34 ∧ x ≠ 92)))
instance (x : Int) : Decidable (atCh x) := by unfold atCh; infer_instance
def quCh (x : Int) : Prop := 32 ≤ x ∧ x ≤ 126
instance (x : Int) : Decidable (quCh x) := by unfold quCh; infer_instance
def L_s_Digits (n : Int) : Nat → List AV → Mem → LoopA
  | 5, tm, M => ⟨Nat × ByteArray, fun y => (anyR (setA tm [(0, .c (.int .i64 ((y.1 : Nat) : Int))), (4, .c (.str y.2)), (5, .any)]) 10 17, M), fun y => (digI y.1 y.2 n), fun y => y.1⟩
  | _, _, _ => ⟨Unit, fun _ => ([], []), fun _ => False, fun _ => 0⟩
theorem b_s_Digits (n : Int) (hpre : nonneg n) : BCalls Tryz.prog 38 [.c (.int .i64 n)] (.c (.str (⟨(Lib.itoa n).toArray⟩ : ByteArray))) [] := by
  refine bc0 [] [] [] [] (L_s_Digits n) Tryz.func38 (fun hwf => ?_)
  refine Eq.mpr (β := (T3 (bif (eqI n 0) then (True ∧ (rS (⟨#[48]⟩ : ByteArray) (⟨(Lib.itoa n).toArray⟩ : ByteArray))) else (T4 ((∃ q : Nat × ByteArray, (digI q.1 q.2 n) ∧ ((leV (.c (.int .i64 n)) (.c (.int .i64 ((q.1 : Nat) : Int))) ∧ lxs [.tp [], .c (.str (⟨#[]⟩ : ByteArray)), .c (.bool (ltI n 0))] (leV (.c (.str (⟨#[]⟩ : ByteArray))) (.c (.str q.2)) ∧ True ∧ lxs [.c (.int .i64 n), .c (.bool false), .c (.int .i64 n), .c (.bool (ltI n 0))] (TN 17 (lxs [.tp [], .tp [], .tp [], .tp []] True)))) ∧ (True) ∧ true = true)) ∧ ∀ y0 : Nat × ByteArray, (digI y0.1 y0.2 n) → (T2 (bif (neI ((y0.1 : Nat) : Int) 0) then (True ∧ ((10 : Int) ≠ 0 ∧ (T3 (bif (ltI (Int.tmod ((y0.1 : Nat) : Int) 10) 0) then (T5 (true = true ∧ (True ∧ (List.length ([(IntKind.wrap .u8 (IntKind.wrap .i64 (48 + (IntKind.wrap .i64 (0 - (Int.tmod ((y0.1 : Nat) : Int) 10))))))] : List Int) ≤ maxLen ∧ (True ∧ (ByteArray.size (bytesOf ([(IntKind.wrap .u8 (IntKind.wrap .i64 (48 + (IntKind.wrap .i64 (0 - (Int.tmod ((y0.1 : Nat) : Int) 10))))))] : List Int)) + ByteArray.size y0.2 ≤ maxLen ∧ (T2 ((10 : Int) ≠ 0 ∧ (True ∧ (∃ y0' : Nat × ByteArray, (digI y0'.1 y0'.2 n) ∧ y0'.1 < y0.1 ∧ ((leV (.c (.int .i64 (IntKind.wrap .i64 (Int.tdiv ((y0.1 : Nat) : Int) 10)))) (.c (.int .i64 ((y0'.1 : Nat) : Int))) ∧ lxs [.tp [], .c (.str (⟨#[]⟩ : ByteArray)), .c (.bool (ltI n 0))] (leV (.c (.str ((bytesOf ([(IntKind.wrap .u8 (IntKind.wrap .i64 (48 + (IntKind.wrap .i64 (0 - (Int.tmod ((y0.1 : Nat) : Int) 10))))))] : List Int)) ++ y0.2))) (.c (.str y0'.2)) ∧ True ∧ lxs [.c (.int .i64 n), .c (.bool false), .c (.int .i64 n), .c (.bool (ltI n 0))] (TN 17 (lxs [.tp [], .tp [], .tp [], .tp []] True)))) ∧ (True) ∧ true = true))))))))))) else (T2 (true = true ∧ (True ∧ (List.length ([(IntKind.wrap .u8 (IntKind.wrap .i64 (48 + (Int.tmod ((y0.1 : Nat) : Int) 10))))] : List Int) ≤ maxLen ∧ (True ∧ (ByteArray.size (bytesOf ([(IntKind.wrap .u8 (IntKind.wrap .i64 (48 + (Int.tmod ((y0.1 : Nat) : Int) 10))))] : List Int)) + ByteArray.size y0.2 ≤ maxLen ∧ (T2 ((10 : Int) ≠ 0 ∧ (True ∧ (∃ y0' : Nat × ByteArray, (digI y0'.1 y0'.2 n) ∧ y0'.1 < y0.1 ∧ ((leV (.c (.int .i64 (IntKind.wrap .i64 (Int.tdiv ((y0.1 : Nat) : Int) 10)))) (.c (.int .i64 ((y0'.1 : Nat) : Int))) ∧ lxs [.tp [], .c (.str (⟨#[]⟩ : ByteArray)), .c (.bool (ltI n 0))] (leV (.c (.str ((bytesOf ([(IntKind.wrap .u8 (IntKind.wrap .i64 (48 + (Int.tmod ((y0.1 : Nat) : Int) 10))))] : List Int)) ++ y0.2))) (.c (.str y0'.2)) ∧ True ∧ lxs [.c (.int .i64 n), .c (.bool false), .c (.int .i64 n), .c (.bool (ltI n 0))] (TN 17 (lxs [.tp [], .tp [], .tp [], .tp []] True)))) ∧ (True) ∧ true = true))))))))))))))) else (True ∧ (bif (ltI n 0) then (True ∧ (ByteArray.size (⟨#[45]⟩ : ByteArray) + ByteArray.size y0.2 ≤ maxLen ∧ (True ∧ (rS ((⟨#[45]⟩ : ByteArray) ++ y0.2) (⟨(Lib.itoa n).toArray⟩ : ByteArray))))) else (T2 (rS y0.2 (⟨(Lib.itoa n).toArray⟩ : ByteArray)))))))))))) (by kernel_rfl) ?_
  unfold T2 T3 T4 T5
  have h0 : 0 ≤ n := hpre
  have hb := i64_b hwf.1
  have e1 : ∀ k : Nat, Int.tmod ((k : Nat) : Int) 10 = ((k % 10 : Nat) : Int) := fun k => rfl
  have e2 : ∀ k : Nat, Int.tdiv ((k : Nat) : Int) 10 = ((k / 10 : Nat) : Int) := fun k => rfl
  have e3 : ∀ k : Nat, IntKind.wrap .u8 (IntKind.wrap .i64 (48 + ((k % 10 : Nat) : Int))) = ((48 + k % 10 : Nat) : Int) := fun k => by rw [w64i (by omega) (by omega), w8 (by omega) (by omega)]; omega
  simp only [e1, e2, e3]
  simp only [btw_iff, btw_not, flagsOk, Bool.not_true, Bool.not_false, SI2A, eq_self]
  repeat' (first | apply And.intro | intro _)
  all_goals first
    | (with_reducible trivial)
    | omega
    | (with_reducible assumption)
    | exact dig_zero (by assumption)
    | exact ⟨(n.toNat, _), digI_init h0 (by assumption), by omega, rfl⟩
    | (unfold maxLen; simp; done)
    | (rename_i y hy hk hx; have := digI_size hb.2 h0 hy; rw [bytesOf_size]; unfold maxLen; simp only [List.length_singleton]; omega)
    | exact dig_next hb.2 h0 (by omega) (by assumption)
    | (rename_i y hy hk hneg; obtain ⟨k, o⟩ := y; obtain rfl : k = 0 := by have : ((k : Nat) : Int) = 0 := hk; omega
       exact digI_end h0 hy)
def e_s_Digits : Entry Tryz.prog := ⟨38, [.v tyInt], fun x => nonneg x.1, fun x => .c (.str (⟨(Lib.itoa x.1).toArray⟩ : ByteArray)), fun _ => [], fun x hx => b_s_Digits x.1 hx, Tryz.call38⟩
end Go.Proofs.YtoigkpkafgjeaaaGreatDoor
set_option linter.unusedSimpArgs false
set_option linter.unusedVariables false
set_option maxRecDepth 100000
set_option maxHeartbeats 4000000
namespace Go.Proofs.YtoigkpkafgjeaaaGreatDoor
open Go.ChangeShapes Go.WideShapes Go.ChangeAt Go.RowKit Go.Joins Go.Deep
open GoRep (rep bulk)

def joN (l : List ByteArray) (by' : ByteArray) : Nat → List Int
  | 0 => []
  | k + 1 => (if 0 < k then joN l by' k ++ byteL by' else joN l by' k) ++ byteL (nth_String l k)
def joS (l : List ByteArray) (by' : ByteArray) : ByteArray := bytesOf (joN l by' l.length)
def joPre (l : List ByteArray) (by' : ByteArray) : Prop := l.length ≤ 1048576 ∧ by'.size ≤ 100 ∧ ∀ k, k < l.length → (nth_String l k).size ≤ 100
theorem joN_len {l : List ByteArray} {b : ByteArray} (h : joPre l b) : ∀ k, k ≤ l.length → (joN l b k).length ≤ 200 * k
  | 0, _ => Nat.le_refl _
  | k + 1, hk => by
    have h1 := joN_len h k (by omega)
    have h2 := h.2.2 k (by omega)
    have h3 := h.2.1
    unfold joN
    split <;> simp only [List.length_append, byteL_len] <;> omega
theorem joN_a {l : List ByteArray} {b : ByteArray} {k : Nat} (h : 0 < k) : joN l b (k + 1) = joN l b k ++ byteL b ++ byteL (nth_String l k) := by
  show (if _ then _ else _) ++ _ = _
  rw [if_pos h]
theorem joN_b {l : List ByteArray} {b : ByteArray} {k : Nat} (h : ¬ 0 < k) : joN l b (k + 1) = joN l b k ++ byteL (nth_String l k) := by
  show (if _ then _ else _) ++ _ = _
  rw [if_neg h]
theorem joS_size {l : List ByteArray} {b : ByteArray} (h : joPre l b) : (joS l b).size ≤ 200 * l.length := by
  unfold joS
  rw [bytesOf_size]
  exact joN_len h _ (Nat.le_refl _)
def L_s_Joined (l : List ByteArray) (b : ByteArray) : Nat → List AV → Mem → LoopA
  | 3, tm, M => ⟨Nat, fun y => (anyR (setA tm [(5, .c (.row 0 0)), (6, .c (.int .i64 ((y : Nat) : Int)))]) 7 18, setM M [(0, .row (.int .u8) (joN l b y) 0 0 none)]), fun y => (y ≤ List.length l), fun y => (List.length l - y)⟩
  | _, _, _ => ⟨Unit, fun _ => ([], []), fun _ => False, fun _ => 0⟩
theorem b_s_Joined (l : List ByteArray) (b : ByteArray) (hpre : joPre l b) : BCalls Tryz.prog 66 [.c (.hs .no tyStr l), .c (.str b)] (.c (.str (joS l b))) [] := by
  refine bc0 [] [] [] [] (L_s_Joined l b) Tryz.func66 (fun hwf => ?_)
  refine Eq.mpr (β := (T4 ((∃ q : Nat, (q ≤ List.length l) ∧ ((lxs [.c (.hs .no tyStr l), .c (.str b), .tp [], .tp [], .c (.str (⟨#[]⟩ : ByteArray)), .c (.row 0 0)] (leV (.c (.int .i64 0)) (.c (.int .i64 ((q : Nat) : Int))) ∧ TN 18 (lxs [.tp [], .tp []] True))) ∧ (leB (.row (.int .u8) ([] : List Int) 0 0 none) (.row (.int .u8) (joN l b q) 0 0 none) ∧ True) ∧ true = true)) ∧ ∀ y0 : Nat, (y0 ≤ List.length l) → (T4 (bif (ltI ((y0 : Nat) : Int) ((List.length l : Nat) : Int)) then (T2 (bif (gtI ((y0 : Nat) : Int) 0) then (T2 (List.length (joN l b y0) + List.length (byteL b) ≤ rowMax ∧ (T4 (((1 : Nat) = 1 ∧ (0 : Int) ≤ ((y0 : Nat) : Int) ∧ (((y0 : Nat) : Int) : Int) < ((List.length l : Nat) : Int)) ∧ (True ∧ (List.length ((joN l b y0) ++ (byteL b)) + List.length (byteL (nth_String l (Int.toNat ((y0 : Nat) : Int)))) ≤ rowMax ∧ (T4 (∃ y0' : Nat, (y0' ≤ List.length l) ∧ (List.length l - y0') < (List.length l - y0) ∧ ((lxs [.c (.hs .no tyStr l), .c (.str b), .tp [], .tp [], .c (.str (⟨#[]⟩ : ByteArray)), .c (.row 0 0)] (leV (.c (.int .i64 (IntKind.wrap .i64 (((y0 : Nat) : Int) + 1)))) (.c (.int .i64 ((y0' : Nat) : Int))) ∧ TN 18 (lxs [.tp [], .tp []] True))) ∧ (leB (.row (.int .u8) (((joN l b y0) ++ (byteL b)) ++ (byteL (nth_String l (Int.toNat ((y0 : Nat) : Int))))) 0 0 none) (.row (.int .u8) (joN l b y0') 0 0 none) ∧ True) ∧ true = true))))))))) else (T3 (((1 : Nat) = 1 ∧ (0 : Int) ≤ ((y0 : Nat) : Int) ∧ (((y0 : Nat) : Int) : Int) < ((List.length l : Nat) : Int)) ∧ (True ∧ (List.length (joN l b y0) + List.length (byteL (nth_String l (Int.toNat ((y0 : Nat) : Int)))) ≤ rowMax ∧ (T4 (∃ y0' : Nat, (y0' ≤ List.length l) ∧ (List.length l - y0') < (List.length l - y0) ∧ ((lxs [.c (.hs .no tyStr l), .c (.str b), .tp [], .tp [], .c (.str (⟨#[]⟩ : ByteArray)), .c (.row 0 0)] (leV (.c (.int .i64 (IntKind.wrap .i64 (((y0 : Nat) : Int) + 1)))) (.c (.int .i64 ((y0' : Nat) : Int))) ∧ TN 18 (lxs [.tp [], .tp []] True))) ∧ (leB (.row (.int .u8) ((joN l b y0) ++ (byteL (nth_String l (Int.toNat ((y0 : Nat) : Int))))) 0 0 none) (.row (.int .u8) (joN l b y0') 0 0 none) ∧ True) ∧ true = true))))))))) else (True ∧ (List.length (joN l b y0) ≤ maxLen ∧ (True ∧ (rS (bytesOf (joN l b y0)) (joS l b)))))))))) (by kernel_rfl) ?_
  unfold T2 T3 T4
  obtain ⟨p1, p2, p3⟩ := hpre
  simp only [leB_rowU8, btw_iff, btw_not, flagsOk, Bool.not_true, Bool.not_false, SI2A, eq_self]
  refine ⟨⟨0, Nat.zero_le _, rfl, rfl⟩, fun y hy => ?_⟩
  have hl := joN_len (l := l) (b := b) ⟨p1, p2, p3⟩ y hy
  have h3 := p3 y
  repeat' (with_reducible first | exact trivial | apply And.intro | intro _)
  all_goals first
    | (with_reducible trivial)
    | omega
    | (with_reducible assumption)
    | ((try simp only [List.length_append, List.length_cons, List.length_nil, byteL_len]); (first | unfold rowMax | unfold maxLen); omega)
    | exact ⟨y + 1, by omega, by omega, wrapN (by unfold maxLen; omega), (joN_a (by omega)).symm⟩
    | exact ⟨y + 1, by omega, by omega, wrapN (by unfold maxLen; omega), (joN_b (by omega)).symm⟩
    | (obtain rfl : y = List.length l := by omega
       rfl)
def e_s_Joined : Entry Tryz.prog := ⟨66, [.v (.list tyStr), .v tyStr], fun x => joPre x.1 x.2.1, fun x => .c (.str (joS x.1 x.2.1)), fun _ => [], fun x hx => b_s_Joined x.1 x.2.1 hx, Tryz.call66⟩
theorem nthS_get {l : List ByteArray} {i : Nat} (h : i < l.length) : l[i]? = some (nth_String l i) := nth_getElem? (t := tyStr) h
end Go.Proofs.YtoigkpkafgjeaaaGreatDoor
