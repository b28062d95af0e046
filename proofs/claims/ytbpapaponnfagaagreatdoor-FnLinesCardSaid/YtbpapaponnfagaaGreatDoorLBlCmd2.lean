/-
  Commands.
  No condition but what the arguments' cells hold. Printed by vcgen.py.
-/
import Derived.Test.YtbpapaponnfagaaGreatDoorLBlCmd1
import Derived.Test.YtbpapaponnfagaaGreatDoorLBlSame
set_option linter.unusedSimpArgs false
set_option linter.unusedVariables false
set_option maxRecDepth 100000
set_option maxHeartbeats 4000000
namespace Go.Proofs.YtbpapaponnfagaaGreatDoor
open Go.ChangeShapes Go.WideShapes Go.ChangeAt Go.RowKit Go.Joins Go.Deep
open GoRep (rep bulk)

def paN (s : ByteArray) (b : Int) : Nat → List ByteArray × Nat
  | 0 => ([], 0)
  | k + 1 => if k = s.size ∨ byteAt s k = b then ((paN s b k).1 ++ [ByteArray.extract s (paN s b k).2 k], k + 1) else paN s b k
def partsS (s : ByteArray) (b : Int) : List ByteArray := (paN s b (s.size + 1)).1
theorem pa_y {s : ByteArray} {b : Int} {k : Nat} (h : k = s.size ∨ byteAt s k = b) : paN s b (k + 1) = ((paN s b k).1 ++ [ByteArray.extract s (paN s b k).2 k], k + 1) := if_pos h
theorem pa_n {s : ByteArray} {b : Int} {k : Nat} (h1 : ¬ k = s.size) (h2 : ¬ byteAt s k = b) : paN s b (k + 1) = paN s b k := if_neg (fun q => q.elim h1 h2)
theorem pa_le (s : ByteArray) (b : Int) : ∀ k, (paN s b k).2 ≤ k ∧ (paN s b k).1.length ≤ k
  | 0 => ⟨Nat.le_refl _, Nat.le_refl _⟩
  | k + 1 => by
    have := pa_le s b k
    unfold paN
    split
    · simp only [List.length_append, List.length_singleton]; omega
    · omega
theorem parts_len (s : ByteArray) (b : Int) : (partsS s b).length ≤ s.size + 1 := (pa_le s b (s.size + 1)).2
def L_s_Parts (s : ByteArray) (b : Int) : Nat → List AV → Mem → LoopA
  | 4, tm, M => ⟨Nat, fun y => (anyR (setA tm [(5, .c (.row 0 0)), (6, .c (.int .i64 (((paN s b y).2 : Nat) : Int))), (7, .c (.int .i64 ((y : Nat) : Int)))]) 8 27, setM M [(0, .row tyStr (paN s b y).1 0 0 none)]), fun y => (y ≤ ByteArray.size s + 1), fun y => (ByteArray.size s + 1 - y)⟩
  | _, _, _ => ⟨Unit, fun _ => ([], []), fun _ => False, fun _ => 0⟩
def k03tm9w (s : ByteArray) (b : Int) (y0 : Nat) : Prop := (T4 (((0 : Int) ≤ (((paN s b y0).2 : Nat) : Int) ∧ ((((paN s b y0).2 : Nat) : Int) : Int) ≤ ((y0 : Nat) : Int) ∧ (((y0 : Nat) : Int) : Int) ≤ ((ByteArray.size s : Nat) : Int)) ∧ (True ∧ ((True ∧ List.length (paN s b y0).1 + List.length ([(ByteArray.extract s (Int.toNat (((paN s b y0).2 : Nat) : Int)) (Int.toNat ((y0 : Nat) : Int)))]) ≤ rowMax) ∧ (T7 (∃ y0' : Nat, (y0' ≤ ByteArray.size s + 1) ∧ (ByteArray.size s + 1 - y0') < (ByteArray.size s + 1 - y0) ∧ ((lxs [.c (.str s), .c (.int .u8 b), .tp [], .tp [], .c (.raw (.slice none 0 0)), .c (.row 0 0)] (leV (.c (.int .i64 (IntKind.wrap .i64 (((y0 : Nat) : Int) + 1)))) (.c (.int .i64 (((paN s b y0').2 : Nat) : Int))) ∧ leV (.c (.int .i64 (IntKind.wrap .i64 (((y0 : Nat) : Int) + 1)))) (.c (.int .i64 ((y0' : Nat) : Int))) ∧ TN 27 (lxs [.tp []] True))) ∧ (leB (.row tyStr ((paN s b y0).1 ++ [(ByteArray.extract s (Int.toNat (((paN s b y0).2 : Nat) : Int)) (Int.toNat ((y0 : Nat) : Int)))]) 0 0 none) (.row tyStr (paN s b y0').1 0 0 none) ∧ True) ∧ true = true)))))))
theorem b_s_Parts (s : ByteArray) (b : Int) (hpre : ByteArray.size s ≤ 1048576) : BCalls Tryz.prog 128 [.c (.str s), .c (.int .u8 b)] (.c (.row 0 0)) [.row tyStr (partsS s b) 0 0 none] := by
  refine bc0 [] [] [] [] (L_s_Parts s b) Tryz.func128 (fun hwf => ?_)
  refine Eq.mpr (β := (T5 ((∃ q : Nat, (q ≤ ByteArray.size s + 1) ∧ ((lxs [.c (.str s), .c (.int .u8 b), .tp [], .tp [], .c (.raw (.slice none 0 0)), .c (.row 0 0)] (leV (.c (.int .i64 0)) (.c (.int .i64 (((paN s b q).2 : Nat) : Int))) ∧ leV (.c (.int .i64 0)) (.c (.int .i64 ((q : Nat) : Int))) ∧ TN 27 (lxs [.tp []] True))) ∧ (leB (.row tyStr ([] : List ByteArray) 0 0 none) (.row tyStr (paN s b q).1 0 0 none) ∧ True) ∧ true = true)) ∧ ∀ y0 : Nat, (y0 ≤ ByteArray.size s + 1) → (T4 (bif (leI ((y0 : Nat) : Int) ((ByteArray.size s : Nat) : Int)) then (T5 (bif (eqI ((y0 : Nat) : Int) ((ByteArray.size s : Nat) : Int)) then (True ∧ (k03tm9w s b y0)) else (T2 (((0 : Int) ≤ ((y0 : Nat) : Int) ∧ (((y0 : Nat) : Int) : Int) < ((ByteArray.size s : Nat) : Int)) ∧ (T3 (bif (eqI (byteAt s (Int.toNat ((y0 : Nat) : Int))) b) then (k03tm9w s b y0) else (T3 (∃ y0' : Nat, (y0' ≤ ByteArray.size s + 1) ∧ (ByteArray.size s + 1 - y0') < (ByteArray.size s + 1 - y0) ∧ ((lxs [.c (.str s), .c (.int .u8 b), .tp [], .tp [], .c (.raw (.slice none 0 0)), .c (.row 0 0)] (leV (.c (.int .i64 (((paN s b y0).2 : Nat) : Int))) (.c (.int .i64 (((paN s b y0').2 : Nat) : Int))) ∧ leV (.c (.int .i64 (IntKind.wrap .i64 (((y0 : Nat) : Int) + 1)))) (.c (.int .i64 ((y0' : Nat) : Int))) ∧ TN 27 (lxs [.tp []] True))) ∧ (leB (.row tyStr (paN s b y0).1 0 0 none) (.row tyStr (paN s b y0').1 0 0 none) ∧ True) ∧ true = true))))))))) else (T2 (((paN s b y0).1 = (partsS s b)) ∧ true = true))))))) (by kernel_rfl) ?_
  unfold k03tm9w T2 T3 T4 T5 T7
  have hs : ByteArray.size s ≤ 1048576 := hpre
  simp only [leB_rowU8, btw_iff, btw_not, flagsOk, Bool.not_true, Bool.not_false, SI2A, eq_self]
  refine ⟨⟨0, Nat.zero_le _, ⟨rfl, rfl⟩, rfl⟩, fun y hy => ?_⟩
  have hl := pa_le s b y
  repeat' (with_reducible first | exact trivial | apply And.intro | intro _)
  all_goals first
    | (with_reducible trivial)
    | omega
    | (with_reducible assumption)
    | ((try simp only [List.length_append, List.length_cons, List.length_nil, byteL_len]); (first | unfold rowMax | unfold maxLen); omega)
    | exact ⟨y + 1, by omega, by omega, ⟨by rw [pa_y (.inl (by omega))]; exact wrapN (by unfold maxLen; omega), wrapN (by unfold maxLen; omega)⟩, by rw [pa_y (.inl (by omega))]⟩
    | exact ⟨y + 1, by omega, by omega, ⟨by rw [pa_y (.inr (by assumption))]; exact wrapN (by unfold maxLen; omega), wrapN (by unfold maxLen; omega)⟩, by rw [pa_y (.inr (by assumption))]⟩
    | exact ⟨y + 1, by omega, by omega, ⟨by rw [pa_n (by omega) (by assumption)], wrapN (by unfold maxLen; omega)⟩, by rw [pa_n (by omega) (by assumption)]⟩
    | (obtain rfl : y = s.size + 1 := by omega
       rfl)
def e_s_Parts : Entry Tryz.prog := ⟨128, [.v tyStr, .v (.int .u8)], fun x => ByteArray.size x.1 ≤ 1048576, fun x => .c (.row 0 0), fun x => [.row tyStr (partsS x.1 x.2.1) 0 0 none], fun x hx => b_s_Parts x.1 x.2.1 hx, Tryz.call128⟩
def opT (op : Int) : ByteArray := (bif (!(btw op 1 3)) then (⟨#[]⟩ : ByteArray) else (nth_String ([(⟨#[]⟩ : ByteArray), (⟨#[43]⟩ : ByteArray), (⟨#[45]⟩ : ByteArray), (⟨#[61]⟩ : ByteArray)]) (Int.toNat op)))
theorem b_s_OpText (op : Int) : BCalls Tryz.prog 126 [.c (.int .i64 op)] (.c (.str (opT op))) [] := by
  refine bc0 [e_s_l1In] [] [] [] L0 Tryz.func126 (fun hwf => ?_)
  refine Eq.mpr (β := (True ∧ (True ∧ ((True ∧ true = true) ∧ (True ∧ (bif (!(btw op 1 3)) then (True ∧ (rS (⟨#[]⟩ : ByteArray) (opT op))) else (True ∧ (True ∧ (((1 : Nat) = 1 ∧ (0 : Int) ≤ op ∧ (op : Int) < ((List.length ([(⟨#[]⟩ : ByteArray), (⟨#[43]⟩ : ByteArray), (⟨#[45]⟩ : ByteArray), (⟨#[61]⟩ : ByteArray)]) : Nat) : Int)) ∧ (True ∧ (True ∧ (rS (nth_String ([(⟨#[]⟩ : ByteArray), (⟨#[43]⟩ : ByteArray), (⟨#[45]⟩ : ByteArray), (⟨#[61]⟩ : ByteArray)]) (Int.toNat op)) (opT op))))))))))))) (by kernel_rfl) ?_
  simp only [SIU, eq_self]
  repeat' (with_reducible first | exact trivial | apply And.intro | apply bifI | intro _)
  all_goals first
    | (with_reducible trivial)
    | omega
    | (with_reducible infer_instance)
    | (simp only [opT, cond_true, cond_false, Int.toNat_natCast, *]; done)
    | (subst_vars; simp only [opT, cond_true, cond_false, Int.toNat_natCast, *]; done)
    | (simp only [opT, cond_true, cond_false, *]; exact leC_refl)
    | (rename_i h; rw [Bool.not_eq_false'] at h; have h := btw_iff.1 h; (try simp only [List.length_cons, List.length_nil]); omega)
def e_s_OpText : Entry Tryz.prog := ⟨126, [.v tyInt], fun x => True, fun x => .c (.str (opT x.1)), fun _ => [], fun x hx => b_s_OpText x.1, Tryz.call126⟩
def kindW (k : Int) : ByteArray := (bif (!(btw k 1 15)) then (⟨#[]⟩ : ByteArray) else (nth_String ([(⟨#[]⟩ : ByteArray), (⟨#[108, 111, 103, 105, 110]⟩ : ByteArray), (⟨#[115, 101, 108, 101, 99, 116]⟩ : ByteArray), (⟨#[99, 108, 111, 115, 101]⟩ : ByteArray), (⟨#[110, 111, 111, 112]⟩ : ByteArray), (⟨#[105, 100, 108, 101]⟩ : ByteArray), (⟨#[110, 111, 116, 105, 102, 121]⟩ : ByteArray), (⟨#[102, 101, 116, 99, 104]⟩ : ByteArray), (⟨#[115, 116, 111, 114, 101]⟩ : ByteArray), (⟨#[101, 120, 112, 117, 110, 103, 101]⟩ : ByteArray), (⟨#[99, 111, 112, 121]⟩ : ByteArray), (⟨#[97, 112, 112, 101, 110, 100]⟩ : ByteArray), (⟨#[99, 114, 101, 97, 116, 101]⟩ : ByteArray), (⟨#[100, 101, 108, 101, 116, 101]⟩ : ByteArray), (⟨#[114, 101, 110, 97, 109, 101]⟩ : ByteArray), (⟨#[108, 111, 103, 111, 117, 116]⟩ : ByteArray)]) (Int.toNat k)))
theorem b_s_KindWord (k : Int) : BCalls Tryz.prog 68 [.c (.int .i64 k)] (.c (.str (kindW k))) [] := by
  refine bc0 [e_s_l1In] [] [] [] L0 Tryz.func68 (fun hwf => ?_)
  refine Eq.mpr (β := (T2 ((True ∧ true = true) ∧ (True ∧ (bif (!(btw k 1 15)) then (True ∧ (rS (⟨#[]⟩ : ByteArray) (kindW k))) else (T2 (((1 : Nat) = 1 ∧ (0 : Int) ≤ k ∧ (k : Int) < ((List.length ([(⟨#[]⟩ : ByteArray), (⟨#[108, 111, 103, 105, 110]⟩ : ByteArray), (⟨#[115, 101, 108, 101, 99, 116]⟩ : ByteArray), (⟨#[99, 108, 111, 115, 101]⟩ : ByteArray), (⟨#[110, 111, 111, 112]⟩ : ByteArray), (⟨#[105, 100, 108, 101]⟩ : ByteArray), (⟨#[110, 111, 116, 105, 102, 121]⟩ : ByteArray), (⟨#[102, 101, 116, 99, 104]⟩ : ByteArray), (⟨#[115, 116, 111, 114, 101]⟩ : ByteArray), (⟨#[101, 120, 112, 117, 110, 103, 101]⟩ : ByteArray), (⟨#[99, 111, 112, 121]⟩ : ByteArray), (⟨#[97, 112, 112, 101, 110, 100]⟩ : ByteArray), (⟨#[99, 114, 101, 97, 116, 101]⟩ : ByteArray), (⟨#[100, 101, 108, 101, 116, 101]⟩ : ByteArray), (⟨#[114, 101, 110, 97, 109, 101]⟩ : ByteArray), (⟨#[108, 111, 103, 111, 117, 116]⟩ : ByteArray)]) : Nat) : Int)) ∧ (T2 (rS (nth_String ([(⟨#[]⟩ : ByteArray), (⟨#[108, 111, 103, 105, 110]⟩ : ByteArray), (⟨#[115, 101, 108, 101, 99, 116]⟩ : ByteArray), (⟨#[99, 108, 111, 115, 101]⟩ : ByteArray), (⟨#[110, 111, 111, 112]⟩ : ByteArray), (⟨#[105, 100, 108, 101]⟩ : ByteArray), (⟨#[110, 111, 116, 105, 102, 121]⟩ : ByteArray), (⟨#[102, 101, 116, 99, 104]⟩ : ByteArray), (⟨#[115, 116, 111, 114, 101]⟩ : ByteArray), (⟨#[101, 120, 112, 117, 110, 103, 101]⟩ : ByteArray), (⟨#[99, 111, 112, 121]⟩ : ByteArray), (⟨#[97, 112, 112, 101, 110, 100]⟩ : ByteArray), (⟨#[99, 114, 101, 97, 116, 101]⟩ : ByteArray), (⟨#[100, 101, 108, 101, 116, 101]⟩ : ByteArray), (⟨#[114, 101, 110, 97, 109, 101]⟩ : ByteArray), (⟨#[108, 111, 103, 111, 117, 116]⟩ : ByteArray)]) (Int.toNat k)) (kindW k)))))))))) (by kernel_rfl) ?_
  unfold T2
  simp only [SIU, eq_self]
  repeat' (with_reducible first | exact trivial | apply And.intro | apply bifI | intro _)
  all_goals first
    | (with_reducible trivial)
    | omega
    | (with_reducible infer_instance)
    | (simp only [kindW, cond_true, cond_false, Int.toNat_natCast, *]; done)
    | (subst_vars; simp only [kindW, cond_true, cond_false, Int.toNat_natCast, *]; done)
    | (simp only [kindW, cond_true, cond_false, *]; exact leC_refl)
    | (rename_i h; rw [Bool.not_eq_false'] at h; have h := btw_iff.1 h; (try simp only [List.length_cons, List.length_nil]); omega)
def e_s_KindWord : Entry Tryz.prog := ⟨68, [.v tyInt], fun x => True, fun x => .c (.str (kindW x.1)), fun _ => [], fun x hx => b_s_KindWord x.1, Tryz.call68⟩
def boxed7 (k : Int) : Bool := (bif (eqI k 2) then true else (bif (eqI k 11) then true else (bif (eqI k 12) then true else (bif (eqI k 13) then true else (bif (eqI k 14) then true else (eqI k 10))))))
theorem b_s_l7Boxed (k : Int) : BCalls Tryz.prog 72 [.c (.int .i64 k)] (.c (.bool (boxed7 k))) [] := by
  refine bc0 [] [] [] [] L0 Tryz.func72 (fun hwf => ?_)
  refine Eq.mpr (β := (T4 (bif (eqI k 2) then (T10 (rB true (boxed7 k))) else (T4 (bif (eqI k 11) then (T8 (rB true (boxed7 k))) else (T4 (bif (eqI k 12) then (T6 (rB true (boxed7 k))) else (T4 (bif (eqI k 13) then (T4 (rB true (boxed7 k))) else (T4 (bif (eqI k 14) then (T2 (rB true (boxed7 k))) else (T4 (rB (eqI k 10) (boxed7 k)))))))))))))) (by kernel_rfl) ?_
  unfold T10 T2 T4 T6 T8
  simp only [SIU, eq_self]
  repeat' (with_reducible first | exact trivial | apply And.intro | apply bifI | intro _)
  all_goals first
    | (with_reducible trivial)
    | omega
    | (with_reducible infer_instance)
    | (simp only [boxed7, cond_true, cond_false, Int.toNat_natCast, *]; done)
    | (subst_vars; simp only [boxed7, cond_true, cond_false, Int.toNat_natCast, *]; done)
    | (simp only [boxed7, cond_true, cond_false, *]; exact leC_refl)
def e_s_l7Boxed : Entry Tryz.prog := ⟨72, [.v tyInt], fun x => True, fun x => .c (.bool (boxed7 x.1)), fun _ => [], fun x hx => b_s_l7Boxed x.1, Tryz.call72⟩
def sets7 (k : Int) : Bool := (bif (eqI k 7) then true else (bif (eqI k 8) then true else (eqI k 10)))
theorem b_s_l7Sets (k : Int) : BCalls Tryz.prog 74 [.c (.int .i64 k)] (.c (.bool (sets7 k))) [] := by
  refine bc0 [] [] [] [] L0 Tryz.func74 (fun hwf => ?_)
  refine Eq.mpr (β := (True ∧ (True ∧ (True ∧ (True ∧ (bif (eqI k 7) then (True ∧ (True ∧ (True ∧ (True ∧ (rB true (sets7 k)))))) else (True ∧ (True ∧ (True ∧ (True ∧ (bif (eqI k 8) then (True ∧ (True ∧ (rB true (sets7 k)))) else (True ∧ (True ∧ (True ∧ (True ∧ (rB (eqI k 10) (sets7 k))))))))))))))))) (by kernel_rfl) ?_
  simp only [SIU, eq_self]
  repeat' (with_reducible first | exact trivial | apply And.intro | apply bifI | intro _)
  all_goals first
    | (with_reducible trivial)
    | omega
    | (with_reducible infer_instance)
    | (simp only [sets7, cond_true, cond_false, Int.toNat_natCast, *]; done)
    | (subst_vars; simp only [sets7, cond_true, cond_false, Int.toNat_natCast, *]; done)
    | (simp only [sets7, cond_true, cond_false, *]; exact leC_refl)
def e_s_l7Sets : Entry Tryz.prog := ⟨74, [.v tyInt], fun x => True, fun x => .c (.bool (sets7 x.1)), fun _ => [], fun x hx => b_s_l7Sets x.1, Tryz.call74⟩
def L_s_l7Spans (a : List GSpan) (b : List GSpan) : Nat → List AV → Mem → LoopA
  | 4, tm, M => ⟨Nat, fun y => (anyR (setA tm [(4, .any), (5, .c (.int .i64 ((y : Nat) : Int)))]) 11 15, M), fun y => (y ≤ List.length a ∧ ∀ j, j < y → nth_Span a j = nth_Span b j), fun y => (List.length a - y)⟩
  | _, _, _ => ⟨Unit, fun _ => ([], []), fun _ => False, fun _ => 0⟩
theorem b_s_l7Spans (a : List GSpan) (b : List GSpan) : BCalls Tryz.prog 110 [.c (.hs .no tySpan a), .c (.hs .no tySpan b)] (.c (.bool (eqT_LSpan a b))) [] := by
  refine bc0 [] [] [] [] (L_s_l7Spans a b) Tryz.func110 (fun hwf => ?_)
  refine Eq.mpr (β := (T6 (bif (neI ((List.length a : Nat) : Int) ((List.length b : Nat) : Int)) then (True ∧ (rB false (eqT_LSpan a b))) else (True ∧ ((∃ q : Nat, (q ≤ List.length a ∧ ∀ j, j < q → nth_Span a j = nth_Span b j) ∧ ((lxs [.c (.hs .no tySpan a), .c (.hs .no tySpan b), .tp [], .tp []] (True ∧ leV (.c (.int .i64 0)) (.c (.int .i64 ((q : Nat) : Int))) ∧ lxs [.c (.hs .no tySpan a), .c (.int .i64 ((List.length a : Nat) : Int)), .c (.hs .no tySpan b), .c (.int .i64 ((List.length b : Nat) : Int)), .c (.bool false)] (TN 15 True))) ∧ (True) ∧ true = true)) ∧ ∀ y0 : Nat, (y0 ≤ List.length a ∧ ∀ j, j < y0 → nth_Span a j = nth_Span b j) → (T4 (bif (ltI ((y0 : Nat) : Int) ((List.length a : Nat) : Int)) then ((true = true ∧ true = true) ∧ (T2 (((2 : Nat) = 2 ∧ (0 : Int) ≤ ((y0 : Nat) : Int) ∧ (((y0 : Nat) : Int) : Int) < ((List.length a : Nat) : Int)) ∧ (T3 (((2 : Nat) = 2 ∧ (0 : Int) ≤ ((y0 : Nat) : Int) ∧ (((y0 : Nat) : Int) : Int) < ((List.length b : Nat) : Int)) ∧ (True ∧ (true = true ∧ (bif (!(eqC_Span (nth_Span a (Int.toNat ((y0 : Nat) : Int))) (nth_Span b (Int.toNat ((y0 : Nat) : Int))))) then (True ∧ (rB false (eqT_LSpan a b))) else (T3 (∃ y0' : Nat, (y0' ≤ List.length a ∧ ∀ j, j < y0' → nth_Span a j = nth_Span b j) ∧ (List.length a - y0') < (List.length a - y0) ∧ ((lxs [.c (.hs .no tySpan a), .c (.hs .no tySpan b), .tp [], .tp []] (True ∧ leV (.c (.int .i64 (IntKind.wrap .i64 (((y0 : Nat) : Int) + 1)))) (.c (.int .i64 ((y0' : Nat) : Int))) ∧ lxs [.c (.hs .no tySpan a), .c (.int .i64 ((List.length a : Nat) : Int)), .c (.hs .no tySpan b), .c (.int .i64 ((List.length b : Nat) : Int)), .c (.bool false)] (TN 15 True))) ∧ (True) ∧ true = true))))))))))) else (True ∧ (rB true (eqT_LSpan a b)))))))))) (by kernel_rfl) ?_
  unfold T2 T3 T4 T6
  have hm : List.length a ≤ maxLen := hwf.1.1
  unfold maxLen at hm
  simp only [leB_rowU8, btw_iff, btw_not, flagsOk, Bool.not_true, Bool.not_false, SI2A, eq_self]
  refine ⟨fun hl => ?_, fun hl => ⟨⟨0, ⟨Nat.zero_le _, allN_zero⟩, rfl⟩, fun k hk => ⟨fun hlt => ⟨by omega, by omega, fun hp => ?_, fun hp => ?_⟩, fun hge => ?_⟩⟩⟩
  · exact (eqT_LSpan_false.2 (fun e => hl (by rw [e]))).symm
  · exact (eqT_LSpan_false.2 (fun e => (eqC_Span_false.1 hp) (by rw [e]))).symm
  · exact ⟨k + 1, ⟨by omega, allN_step hk.2 (eqC_Span_true.1 hp)⟩, by omega, wrapN (by unfold maxLen; omega)⟩
  · obtain rfl : k = List.length a := by omega
    have hl' : List.length a = List.length b := by omega
    exact (eqT_LSpan_true.2 (eq_of_nth (t := tySpan) hl' hk.2)).symm
def e_s_l7Spans : Entry Tryz.prog := ⟨110, [.v (.list tySpan), .v (.list tySpan)], fun x => True, fun x => .c (.bool (eqT_LSpan x.1 x.2.1)), fun _ => [], fun x hx => b_s_l7Spans x.1 x.2.1, Tryz.call110⟩
def sameC (a : GCommand) (b : GCommand) : Bool := (bif (eqS a.1 b.1) then (bif (eqI a.2.1 b.2.1) then (bif (eqS a.2.2.1 b.2.2.1) then (bif (eqS a.2.2.2.1 b.2.2.2.1) then (bif (eqO a.2.2.2.2.1 b.2.2.2.2.1) then (bif eqT_LSpan a.2.2.2.2.2.1 b.2.2.2.2.2.1 then (bif (eqI a.2.2.2.2.2.2.1 b.2.2.2.2.2.2.1) then (bif (eqI a.2.2.2.2.2.2.2.1 b.2.2.2.2.2.2.2.1) then (bif (eqS a.2.2.2.2.2.2.2.2.1 b.2.2.2.2.2.2.2.2.1) then eqT_Filter a.2.2.2.2.2.2.2.2.2 b.2.2.2.2.2.2.2.2.2 else false) else false) else false) else false) else false) else false) else false) else false) else false)
def k03wjf9 (a : GCommand) (b : GCommand) : Prop := (T8 (rB false (sameC a b)))
theorem b_s_SameCommand (a : GCommand) (b : GCommand) : BCalls Tryz.prog 35 [.ag (cellsOf tyCommand a), .ag (cellsOf tyCommand b)] (.c (.bool (sameC a b))) [] := by
  refine bc0 [e_s_l7Spans, e_s_SameFilter] [] [] [] L0 Tryz.func35 (fun hwf => ?_)
  refine Eq.mpr (β := (T9 (bif (eqS a.1 b.1) then (T7 (bif (eqI a.2.1 b.2.1) then (T7 (bif (eqS a.2.2.1 b.2.2.1) then (T7 (bif (eqS a.2.2.2.1 b.2.2.2.1) then (T4 (some TypeDesc.bool = some TypeDesc.bool ∧ (T2 (bif (eqO a.2.2.2.2.1 b.2.2.2.2.1) then (T4 ((True ∧ true = true) ∧ (T2 (bif eqT_LSpan a.2.2.2.2.2.1 b.2.2.2.2.2.1 then (T7 (bif (eqI a.2.2.2.2.2.2.1 b.2.2.2.2.2.2.1) then (T7 (bif (eqI a.2.2.2.2.2.2.2.1 b.2.2.2.2.2.2.2.1) then (T7 (bif (eqS a.2.2.2.2.2.2.2.2.1 b.2.2.2.2.2.2.2.2.1) then (T4 ((True ∧ true = true) ∧ (T2 (rB (eqT_Filter a.2.2.2.2.2.2.2.2.2 b.2.2.2.2.2.2.2.2.2) (sameC a b))))) else (T2 (rB false (sameC a b))))) else (T4 (rB false (sameC a b))))) else (T6 (rB false (sameC a b))))) else (k03wjf9 a b))))) else (T2 (k03wjf9 a b)))))) else (T4 (k03wjf9 a b)))) else (T6 (k03wjf9 a b)))) else (T8 (k03wjf9 a b)))) else (T10 (k03wjf9 a b))))) (by kernel_rfl) ?_
  unfold k03wjf9 T10 T2 T4 T6 T7 T8 T9
  simp only [SIU, eq_self]
  repeat' (with_reducible first | exact trivial | apply And.intro | apply bifI | intro _)
  all_goals first
    | (with_reducible trivial)
    | omega
    | (with_reducible infer_instance)
    | (simp only [sameC, cond_true, cond_false, Int.toNat_natCast, *]; done)
    | (subst_vars; simp only [sameC, cond_true, cond_false, Int.toNat_natCast, *]; done)
    | (simp only [sameC, cond_true, cond_false, *]; exact leC_refl)
def e_s_SameCommand : Entry Tryz.prog := ⟨35, [.s tyCommand, .s tyCommand], fun x => True, fun x => .c (.bool (sameC x.1 x.2.1)), fun _ => [], fun x hx => b_s_SameCommand x.1 x.2.1, Tryz.call35⟩
def said (c : GCommand) : GCommand := (bif (boxed7 c.2.1) then (bif (sets7 c.2.1) then (bif (eqI c.2.1 14) then (c.1, (c.2.1, (c.2.2.1, (c.2.2.2.1, (c.2.2.2.2.1, (c.2.2.2.2.2.1, (0, (0, ((⟨#[]⟩ : ByteArray), (false, ([] : List GScope))))))))))) else (bif (eqI c.2.1 8) then (c.1, (c.2.1, (c.2.2.1, ((⟨#[]⟩ : ByteArray), (c.2.2.2.2.1, (c.2.2.2.2.2.1, (c.2.2.2.2.2.2.1, (c.2.2.2.2.2.2.2.1, ((⟨#[]⟩ : ByteArray), (false, ([] : List GScope))))))))))) else (bif (eqI c.2.1 11) then (c.1, (c.2.1, (c.2.2.1, ((⟨#[]⟩ : ByteArray), (c.2.2.2.2.1, (c.2.2.2.2.2.1, (0, (c.2.2.2.2.2.2.2.1, (c.2.2.2.2.2.2.2.2.1, (false, ([] : List GScope))))))))))) else (bif (eqI c.2.1 6) then (c.1, (c.2.1, (c.2.2.1, ((⟨#[]⟩ : ByteArray), (c.2.2.2.2.1, (c.2.2.2.2.2.1, (0, (0, ((⟨#[]⟩ : ByteArray), c.2.2.2.2.2.2.2.2.2))))))))) else (c.1, (c.2.1, (c.2.2.1, ((⟨#[]⟩ : ByteArray), (c.2.2.2.2.1, (c.2.2.2.2.2.1, (0, (0, ((⟨#[]⟩ : ByteArray), (false, ([] : List GScope))))))))))))))) else (bif (eqI c.2.1 14) then (c.1, (c.2.1, (c.2.2.1, (c.2.2.2.1, (false, (([] : List GSpan), (0, (0, ((⟨#[]⟩ : ByteArray), (false, ([] : List GScope))))))))))) else (bif (eqI c.2.1 8) then (c.1, (c.2.1, (c.2.2.1, ((⟨#[]⟩ : ByteArray), (false, (([] : List GSpan), (c.2.2.2.2.2.2.1, (c.2.2.2.2.2.2.2.1, ((⟨#[]⟩ : ByteArray), (false, ([] : List GScope))))))))))) else (bif (eqI c.2.1 11) then (c.1, (c.2.1, (c.2.2.1, ((⟨#[]⟩ : ByteArray), (false, (([] : List GSpan), (0, (c.2.2.2.2.2.2.2.1, (c.2.2.2.2.2.2.2.2.1, (false, ([] : List GScope))))))))))) else (bif (eqI c.2.1 6) then (c.1, (c.2.1, (c.2.2.1, ((⟨#[]⟩ : ByteArray), (false, (([] : List GSpan), (0, (0, ((⟨#[]⟩ : ByteArray), c.2.2.2.2.2.2.2.2.2))))))))) else (c.1, (c.2.1, (c.2.2.1, ((⟨#[]⟩ : ByteArray), (false, (([] : List GSpan), (0, (0, ((⟨#[]⟩ : ByteArray), (false, ([] : List GScope)))))))))))))))) else (bif (sets7 c.2.1) then (bif (eqI c.2.1 14) then (c.1, (c.2.1, ((⟨#[]⟩ : ByteArray), (c.2.2.2.1, (c.2.2.2.2.1, (c.2.2.2.2.2.1, (0, (0, ((⟨#[]⟩ : ByteArray), (false, ([] : List GScope))))))))))) else (bif (eqI c.2.1 8) then (c.1, (c.2.1, ((⟨#[]⟩ : ByteArray), ((⟨#[]⟩ : ByteArray), (c.2.2.2.2.1, (c.2.2.2.2.2.1, (c.2.2.2.2.2.2.1, (c.2.2.2.2.2.2.2.1, ((⟨#[]⟩ : ByteArray), (false, ([] : List GScope))))))))))) else (bif (eqI c.2.1 11) then (c.1, (c.2.1, ((⟨#[]⟩ : ByteArray), ((⟨#[]⟩ : ByteArray), (c.2.2.2.2.1, (c.2.2.2.2.2.1, (0, (c.2.2.2.2.2.2.2.1, (c.2.2.2.2.2.2.2.2.1, (false, ([] : List GScope))))))))))) else (bif (eqI c.2.1 6) then (c.1, (c.2.1, ((⟨#[]⟩ : ByteArray), ((⟨#[]⟩ : ByteArray), (c.2.2.2.2.1, (c.2.2.2.2.2.1, (0, (0, ((⟨#[]⟩ : ByteArray), c.2.2.2.2.2.2.2.2.2))))))))) else (c.1, (c.2.1, ((⟨#[]⟩ : ByteArray), ((⟨#[]⟩ : ByteArray), (c.2.2.2.2.1, (c.2.2.2.2.2.1, (0, (0, ((⟨#[]⟩ : ByteArray), (false, ([] : List GScope))))))))))))))) else (bif (eqI c.2.1 14) then (c.1, (c.2.1, ((⟨#[]⟩ : ByteArray), (c.2.2.2.1, (false, (([] : List GSpan), (0, (0, ((⟨#[]⟩ : ByteArray), (false, ([] : List GScope))))))))))) else (bif (eqI c.2.1 8) then (c.1, (c.2.1, ((⟨#[]⟩ : ByteArray), ((⟨#[]⟩ : ByteArray), (false, (([] : List GSpan), (c.2.2.2.2.2.2.1, (c.2.2.2.2.2.2.2.1, ((⟨#[]⟩ : ByteArray), (false, ([] : List GScope))))))))))) else (bif (eqI c.2.1 11) then (c.1, (c.2.1, ((⟨#[]⟩ : ByteArray), ((⟨#[]⟩ : ByteArray), (false, (([] : List GSpan), (0, (c.2.2.2.2.2.2.2.1, (c.2.2.2.2.2.2.2.2.1, (false, ([] : List GScope))))))))))) else (bif (eqI c.2.1 6) then (c.1, (c.2.1, ((⟨#[]⟩ : ByteArray), ((⟨#[]⟩ : ByteArray), (false, (([] : List GSpan), (0, (0, ((⟨#[]⟩ : ByteArray), c.2.2.2.2.2.2.2.2.2))))))))) else (c.1, (c.2.1, ((⟨#[]⟩ : ByteArray), ((⟨#[]⟩ : ByteArray), (false, (([] : List GSpan), (0, (0, ((⟨#[]⟩ : ByteArray), (false, ([] : List GScope)))))))))))))))))
def k05ep7w (c : GCommand) : Prop := (true = true ∧ leC (.str (⟨#[]⟩ : ByteArray)) (.str (said c).2.2.2.2.2.2.2.2.1))
def k15ep7w (c : GCommand) : Prop := (true = true ∧ leC (.int .i64 c.2.1) (.int .i64 (said c).2.1))
def k25ep7w (c : GCommand) : Prop := (true = true ∧ leC (.bool false) (.bool (said c).2.2.2.2.2.2.2.2.2.1))
def k35ep7w (c : GCommand) : Prop := (true = true ∧ leC (.str (⟨#[]⟩ : ByteArray)) (.str (said c).2.2.2.1))
def k45ep7w (c : GCommand) : Prop := (true = true ∧ leC (.int .i64 0) (.int .i64 (said c).2.2.2.2.2.2.1))
def k55ep7w (c : GCommand) : Prop := (true = true ∧ leC (.hs .no tySpan c.2.2.2.2.2.1) (.hs .no tySpan (said c).2.2.2.2.2.1))
def k65ep7w (c : GCommand) : Prop := (true = true ∧ leC (.int .i64 0) (.int .i64 (said c).2.2.2.2.2.2.2.1))
def k75ep7w (c : GCommand) : Prop := (true = true ∧ leC (.str c.1) (.str (said c).1))
def k85ep7w (c : GCommand) : Prop := (true = true ∧ leC (.int .i64 c.2.2.2.2.2.2.2.1) (.int .i64 (said c).2.2.2.2.2.2.2.1))
def k95ep7w (c : GCommand) : Prop := (true = true ∧ (said c).2.2.2.2.2.2.2.2.2.2 = [])
def k105ep7w (c : GCommand) : Prop := (true = true ∧ leC (.str (⟨#[]⟩ : ByteArray)) (.str (said c).2.2.1))
def k115ep7w (c : GCommand) : Prop := (true = true ∧ leC (.bool c.2.2.2.2.1) (.bool (said c).2.2.2.2.1))
def k125ep7w (c : GCommand) : Prop := (true = true ∧ leC (.bool false) (.bool (said c).2.2.2.2.1))
def k135ep7w (c : GCommand) : Prop := (true = true ∧ leC (.str c.2.2.1) (.str (said c).2.2.1))
def k145ep7w (c : GCommand) : Prop := (true = true ∧ leC (.hs .no tyScope c.2.2.2.2.2.2.2.2.2.2) (.hs .no tyScope (said c).2.2.2.2.2.2.2.2.2.2))
def k155ep7w (c : GCommand) : Prop := (true = true ∧ leC (.bool c.2.2.2.2.2.2.2.2.2.1) (.bool (said c).2.2.2.2.2.2.2.2.2.1))
def k165ep7w (c : GCommand) : Prop := (true = true ∧ (said c).2.2.2.2.2.1 = [])
def k175ep7w (c : GCommand) : Prop := (true = true ∧ leC (.int .i64 c.2.2.2.2.2.2.1) (.int .i64 (said c).2.2.2.2.2.2.1))
def k185ep7w (c : GCommand) : Prop := (true = true ∧ leC (.str c.2.2.2.2.2.2.2.2.1) (.str (said c).2.2.2.2.2.2.2.2.1))
theorem b_s_l7Said (c : GCommand) : BCalls Tryz.prog 71 [.ag (cellsOf tyCommand c)] (.ag [.str (said c).1, .int .i64 (said c).2.1, .str (said c).2.2.1, .str (said c).2.2.2.1, .bool (said c).2.2.2.2.1, .hs .no tySpan (said c).2.2.2.2.2.1, .int .i64 (said c).2.2.2.2.2.2.1, .int .i64 (said c).2.2.2.2.2.2.2.1, .str (said c).2.2.2.2.2.2.2.2.1, .bool (said c).2.2.2.2.2.2.2.2.2.1, .hs .no tyScope (said c).2.2.2.2.2.2.2.2.2.2]) [] := by
  refine bc0 [e_s_l7Boxed, e_s_l7Sets] [] [] [] L0 Tryz.func71 (fun hwf => ?_)
  refine Eq.mpr (β := (T11 ((True ∧ true = true) ∧ (bif (boxed7 c.2.1) then (T6 ((True ∧ true = true) ∧ (bif (sets7 c.2.1) then (T12 (bif (eqI c.2.1 14) then (T6 ((((k75ep7w c) ∧ (k15ep7w c) ∧ (k135ep7w c) ∧ (true = true ∧ leC (.str c.2.2.2.1) (.str (said c).2.2.2.1)) ∧ (k115ep7w c) ∧ (k55ep7w c) ∧ (k45ep7w c) ∧ (k65ep7w c) ∧ (k05ep7w c) ∧ (k25ep7w c) ∧ (k95ep7w c) ∧ True)) ∧ true = true)) else (T2 (bif (eqI c.2.1 8) then (T10 ((((k75ep7w c) ∧ (k15ep7w c) ∧ (k135ep7w c) ∧ (k35ep7w c) ∧ (k115ep7w c) ∧ (k55ep7w c) ∧ (k175ep7w c) ∧ (k85ep7w c) ∧ (k05ep7w c) ∧ (k25ep7w c) ∧ (k95ep7w c) ∧ True)) ∧ true = true)) else (T2 (bif (eqI c.2.1 11) then (T10 ((((k75ep7w c) ∧ (k15ep7w c) ∧ (k135ep7w c) ∧ (k35ep7w c) ∧ (k115ep7w c) ∧ (k55ep7w c) ∧ (k45ep7w c) ∧ (k85ep7w c) ∧ (k185ep7w c) ∧ (k25ep7w c) ∧ (k95ep7w c) ∧ True)) ∧ true = true)) else (T2 (bif (eqI c.2.1 6) then (T6 ((((k75ep7w c) ∧ (k15ep7w c) ∧ (k135ep7w c) ∧ (k35ep7w c) ∧ (k115ep7w c) ∧ (k55ep7w c) ∧ (k45ep7w c) ∧ (k65ep7w c) ∧ (k05ep7w c) ∧ (k155ep7w c) ∧ (k145ep7w c) ∧ True)) ∧ true = true)) else (T2 ((((k75ep7w c) ∧ (k15ep7w c) ∧ (k135ep7w c) ∧ (k35ep7w c) ∧ (k115ep7w c) ∧ (k55ep7w c) ∧ (k45ep7w c) ∧ (k65ep7w c) ∧ (k05ep7w c) ∧ (k25ep7w c) ∧ (k95ep7w c) ∧ True)) ∧ true = true)))))))))) else (T4 (bif (eqI c.2.1 14) then (T6 ((((k75ep7w c) ∧ (k15ep7w c) ∧ (k135ep7w c) ∧ (true = true ∧ leC (.str c.2.2.2.1) (.str (said c).2.2.2.1)) ∧ (k125ep7w c) ∧ (k165ep7w c) ∧ (k45ep7w c) ∧ (k65ep7w c) ∧ (k05ep7w c) ∧ (k25ep7w c) ∧ (k95ep7w c) ∧ True)) ∧ true = true)) else (T2 (bif (eqI c.2.1 8) then (T10 ((((k75ep7w c) ∧ (k15ep7w c) ∧ (k135ep7w c) ∧ (k35ep7w c) ∧ (k125ep7w c) ∧ (k165ep7w c) ∧ (k175ep7w c) ∧ (k85ep7w c) ∧ (k05ep7w c) ∧ (k25ep7w c) ∧ (k95ep7w c) ∧ True)) ∧ true = true)) else (T2 (bif (eqI c.2.1 11) then (T10 ((((k75ep7w c) ∧ (k15ep7w c) ∧ (k135ep7w c) ∧ (k35ep7w c) ∧ (k125ep7w c) ∧ (k165ep7w c) ∧ (k45ep7w c) ∧ (k85ep7w c) ∧ (k185ep7w c) ∧ (k25ep7w c) ∧ (k95ep7w c) ∧ True)) ∧ true = true)) else (T2 (bif (eqI c.2.1 6) then (T6 ((((k75ep7w c) ∧ (k15ep7w c) ∧ (k135ep7w c) ∧ (k35ep7w c) ∧ (k125ep7w c) ∧ (k165ep7w c) ∧ (k45ep7w c) ∧ (k65ep7w c) ∧ (k05ep7w c) ∧ (k155ep7w c) ∧ (k145ep7w c) ∧ True)) ∧ true = true)) else (T2 ((((k75ep7w c) ∧ (k15ep7w c) ∧ (k135ep7w c) ∧ (k35ep7w c) ∧ (k125ep7w c) ∧ (k165ep7w c) ∧ (k45ep7w c) ∧ (k65ep7w c) ∧ (k05ep7w c) ∧ (k25ep7w c) ∧ (k95ep7w c) ∧ True)) ∧ true = true))))))))))))) else (T2 ((True ∧ true = true) ∧ (bif (sets7 c.2.1) then (T12 (bif (eqI c.2.1 14) then (T6 ((((k75ep7w c) ∧ (k15ep7w c) ∧ (k105ep7w c) ∧ (true = true ∧ leC (.str c.2.2.2.1) (.str (said c).2.2.2.1)) ∧ (k115ep7w c) ∧ (k55ep7w c) ∧ (k45ep7w c) ∧ (k65ep7w c) ∧ (k05ep7w c) ∧ (k25ep7w c) ∧ (k95ep7w c) ∧ True)) ∧ true = true)) else (T2 (bif (eqI c.2.1 8) then (T10 ((((k75ep7w c) ∧ (k15ep7w c) ∧ (k105ep7w c) ∧ (k35ep7w c) ∧ (k115ep7w c) ∧ (k55ep7w c) ∧ (k175ep7w c) ∧ (k85ep7w c) ∧ (k05ep7w c) ∧ (k25ep7w c) ∧ (k95ep7w c) ∧ True)) ∧ true = true)) else (T2 (bif (eqI c.2.1 11) then (T10 ((((k75ep7w c) ∧ (k15ep7w c) ∧ (k105ep7w c) ∧ (k35ep7w c) ∧ (k115ep7w c) ∧ (k55ep7w c) ∧ (k45ep7w c) ∧ (k85ep7w c) ∧ (k185ep7w c) ∧ (k25ep7w c) ∧ (k95ep7w c) ∧ True)) ∧ true = true)) else (T2 (bif (eqI c.2.1 6) then (T6 ((((k75ep7w c) ∧ (k15ep7w c) ∧ (k105ep7w c) ∧ (k35ep7w c) ∧ (k115ep7w c) ∧ (k55ep7w c) ∧ (k45ep7w c) ∧ (k65ep7w c) ∧ (k05ep7w c) ∧ (k155ep7w c) ∧ (k145ep7w c) ∧ True)) ∧ true = true)) else (T2 ((((k75ep7w c) ∧ (k15ep7w c) ∧ (k105ep7w c) ∧ (k35ep7w c) ∧ (k115ep7w c) ∧ (k55ep7w c) ∧ (k45ep7w c) ∧ (k65ep7w c) ∧ (k05ep7w c) ∧ (k25ep7w c) ∧ (k95ep7w c) ∧ True)) ∧ true = true)))))))))) else (T4 (bif (eqI c.2.1 14) then (T6 ((((k75ep7w c) ∧ (k15ep7w c) ∧ (k105ep7w c) ∧ (true = true ∧ leC (.str c.2.2.2.1) (.str (said c).2.2.2.1)) ∧ (k125ep7w c) ∧ (k165ep7w c) ∧ (k45ep7w c) ∧ (k65ep7w c) ∧ (k05ep7w c) ∧ (k25ep7w c) ∧ (k95ep7w c) ∧ True)) ∧ true = true)) else (T2 (bif (eqI c.2.1 8) then (T10 ((((k75ep7w c) ∧ (k15ep7w c) ∧ (k105ep7w c) ∧ (k35ep7w c) ∧ (k125ep7w c) ∧ (k165ep7w c) ∧ (k175ep7w c) ∧ (k85ep7w c) ∧ (k05ep7w c) ∧ (k25ep7w c) ∧ (k95ep7w c) ∧ True)) ∧ true = true)) else (T2 (bif (eqI c.2.1 11) then (T10 ((((k75ep7w c) ∧ (k15ep7w c) ∧ (k105ep7w c) ∧ (k35ep7w c) ∧ (k125ep7w c) ∧ (k165ep7w c) ∧ (k45ep7w c) ∧ (k85ep7w c) ∧ (k185ep7w c) ∧ (k25ep7w c) ∧ (k95ep7w c) ∧ True)) ∧ true = true)) else (T2 (bif (eqI c.2.1 6) then (T6 ((((k75ep7w c) ∧ (k15ep7w c) ∧ (k105ep7w c) ∧ (k35ep7w c) ∧ (k125ep7w c) ∧ (k165ep7w c) ∧ (k45ep7w c) ∧ (k65ep7w c) ∧ (k05ep7w c) ∧ (k155ep7w c) ∧ (k145ep7w c) ∧ True)) ∧ true = true)) else (T2 ((((k75ep7w c) ∧ (k15ep7w c) ∧ (k105ep7w c) ∧ (k35ep7w c) ∧ (k125ep7w c) ∧ (k165ep7w c) ∧ (k45ep7w c) ∧ (k65ep7w c) ∧ (k05ep7w c) ∧ (k25ep7w c) ∧ (k95ep7w c) ∧ True)) ∧ true = true))))))))))))))))) (by kernel_rfl) ?_
  unfold k185ep7w k175ep7w k165ep7w k155ep7w k145ep7w k135ep7w k125ep7w k115ep7w k105ep7w k95ep7w k85ep7w k75ep7w k65ep7w k55ep7w k45ep7w k35ep7w k25ep7w k15ep7w k05ep7w T10 T11 T12 T2 T4 T6
  simp only [SIU, eq_self]
  repeat' (with_reducible first | exact trivial | apply And.intro | apply bifI | intro _)
  all_goals first
    | (with_reducible trivial)
    | omega
    | (with_reducible infer_instance)
    | (simp only [said, cond_true, cond_false, Int.toNat_natCast, *]; done)
    | (subst_vars; simp only [said, cond_true, cond_false, Int.toNat_natCast, *]; done)
    | (simp only [said, cond_true, cond_false, *]; exact leC_refl)
def e_s_l7Said : Entry Tryz.prog := ⟨71, [.s tyCommand], fun x => True, fun x => .ag [.str (said x.1).1, .int .i64 (said x.1).2.1, .str (said x.1).2.2.1, .str (said x.1).2.2.2.1, .bool (said x.1).2.2.2.2.1, .hs .no tySpan (said x.1).2.2.2.2.2.1, .int .i64 (said x.1).2.2.2.2.2.2.1, .int .i64 (said x.1).2.2.2.2.2.2.2.1, .str (said x.1).2.2.2.2.2.2.2.2.1, .bool (said x.1).2.2.2.2.2.2.2.2.2.1, .hs .no tyScope (said x.1).2.2.2.2.2.2.2.2.2.2], fun _ => [], fun x hx => b_s_l7Said x.1, Tryz.call71⟩
def cmdOk (c : GCommand) : Bool := (bif (!(tagOk c.1)) then false else (bif (!(btw c.2.1 1 15)) then false else (bif (!(sameC (said c) c)) then false else (bif (boxed7 c.2.1) then (bif (!(nameOk c.2.2.1)) then false else (bif (eqI c.2.1 14) then (bif (!(nameOk c.2.2.2.1)) then false else (bif (sets7 c.2.1) then (bif (!(setOk c.2.2.2.2.2.1)) then false else (bif (eqI c.2.1 8) then (bif (!(btw c.2.2.2.2.2.2.1 1 3)) then false else (bif flagsOk c.2.2.2.2.2.2.2.1 then (bif (leI ((ByteArray.size c.2.2.2.2.2.2.2.2.1 : Nat) : Int) 40) then filterOk c.2.2.2.2.2.2.2.2.2 else false) else false)) else (bif flagsOk c.2.2.2.2.2.2.2.1 then (bif (leI ((ByteArray.size c.2.2.2.2.2.2.2.2.1 : Nat) : Int) 40) then filterOk c.2.2.2.2.2.2.2.2.2 else false) else false))) else (bif (eqI c.2.1 8) then (bif (!(btw c.2.2.2.2.2.2.1 1 3)) then false else (bif flagsOk c.2.2.2.2.2.2.2.1 then (bif (leI ((ByteArray.size c.2.2.2.2.2.2.2.2.1 : Nat) : Int) 40) then filterOk c.2.2.2.2.2.2.2.2.2 else false) else false)) else (bif flagsOk c.2.2.2.2.2.2.2.1 then (bif (leI ((ByteArray.size c.2.2.2.2.2.2.2.2.1 : Nat) : Int) 40) then filterOk c.2.2.2.2.2.2.2.2.2 else false) else false)))) else (bif (sets7 c.2.1) then (bif (!(setOk c.2.2.2.2.2.1)) then false else (bif (eqI c.2.1 8) then (bif (!(btw c.2.2.2.2.2.2.1 1 3)) then false else (bif flagsOk c.2.2.2.2.2.2.2.1 then (bif (leI ((ByteArray.size c.2.2.2.2.2.2.2.2.1 : Nat) : Int) 40) then filterOk c.2.2.2.2.2.2.2.2.2 else false) else false)) else (bif flagsOk c.2.2.2.2.2.2.2.1 then (bif (leI ((ByteArray.size c.2.2.2.2.2.2.2.2.1 : Nat) : Int) 40) then filterOk c.2.2.2.2.2.2.2.2.2 else false) else false))) else (bif (eqI c.2.1 8) then (bif (!(btw c.2.2.2.2.2.2.1 1 3)) then false else (bif flagsOk c.2.2.2.2.2.2.2.1 then (bif (leI ((ByteArray.size c.2.2.2.2.2.2.2.2.1 : Nat) : Int) 40) then filterOk c.2.2.2.2.2.2.2.2.2 else false) else false)) else (bif flagsOk c.2.2.2.2.2.2.2.1 then (bif (leI ((ByteArray.size c.2.2.2.2.2.2.2.2.1 : Nat) : Int) 40) then filterOk c.2.2.2.2.2.2.2.2.2 else false) else false))))) else (bif (eqI c.2.1 14) then (bif (!(nameOk c.2.2.2.1)) then false else (bif (sets7 c.2.1) then (bif (!(setOk c.2.2.2.2.2.1)) then false else (bif (eqI c.2.1 8) then (bif (!(btw c.2.2.2.2.2.2.1 1 3)) then false else (bif flagsOk c.2.2.2.2.2.2.2.1 then (bif (leI ((ByteArray.size c.2.2.2.2.2.2.2.2.1 : Nat) : Int) 40) then filterOk c.2.2.2.2.2.2.2.2.2 else false) else false)) else (bif flagsOk c.2.2.2.2.2.2.2.1 then (bif (leI ((ByteArray.size c.2.2.2.2.2.2.2.2.1 : Nat) : Int) 40) then filterOk c.2.2.2.2.2.2.2.2.2 else false) else false))) else (bif (eqI c.2.1 8) then (bif (!(btw c.2.2.2.2.2.2.1 1 3)) then false else (bif flagsOk c.2.2.2.2.2.2.2.1 then (bif (leI ((ByteArray.size c.2.2.2.2.2.2.2.2.1 : Nat) : Int) 40) then filterOk c.2.2.2.2.2.2.2.2.2 else false) else false)) else (bif flagsOk c.2.2.2.2.2.2.2.1 then (bif (leI ((ByteArray.size c.2.2.2.2.2.2.2.2.1 : Nat) : Int) 40) then filterOk c.2.2.2.2.2.2.2.2.2 else false) else false)))) else (bif (sets7 c.2.1) then (bif (!(setOk c.2.2.2.2.2.1)) then false else (bif (eqI c.2.1 8) then (bif (!(btw c.2.2.2.2.2.2.1 1 3)) then false else (bif flagsOk c.2.2.2.2.2.2.2.1 then (bif (leI ((ByteArray.size c.2.2.2.2.2.2.2.2.1 : Nat) : Int) 40) then filterOk c.2.2.2.2.2.2.2.2.2 else false) else false)) else (bif flagsOk c.2.2.2.2.2.2.2.1 then (bif (leI ((ByteArray.size c.2.2.2.2.2.2.2.2.1 : Nat) : Int) 40) then filterOk c.2.2.2.2.2.2.2.2.2 else false) else false))) else (bif (eqI c.2.1 8) then (bif (!(btw c.2.2.2.2.2.2.1 1 3)) then false else (bif flagsOk c.2.2.2.2.2.2.2.1 then (bif (leI ((ByteArray.size c.2.2.2.2.2.2.2.2.1 : Nat) : Int) 40) then filterOk c.2.2.2.2.2.2.2.2.2 else false) else false)) else (bif flagsOk c.2.2.2.2.2.2.2.1 then (bif (leI ((ByteArray.size c.2.2.2.2.2.2.2.2.1 : Nat) : Int) 40) then filterOk c.2.2.2.2.2.2.2.2.2 else false) else false))))))))
def k28q5cj (c : GCommand) : Prop := (T2 ((True ∧ true = true) ∧ (True ∧ (bif flagsOk c.2.2.2.2.2.2.2.1 then (T6 (bif (leI ((ByteArray.size c.2.2.2.2.2.2.2.2.1 : Nat) : Int) 40) then (T2 ((True ∧ true = true) ∧ (T2 (rB (filterOk c.2.2.2.2.2.2.2.2.2) (cmdOk c))))) else (T2 (rB false (cmdOk c))))) else (T4 (rB false (cmdOk c)))))))
def k08q5cj (c : GCommand) : Prop := (T4 (bif (eqI c.2.1 8) then (T2 ((True ∧ true = true) ∧ (T3 (bif (!(btw c.2.2.2.2.2.2.1 1 3)) then (True ∧ (rB false (cmdOk c))) else (k28q5cj c))))) else (T2 (k28q5cj c))))
def k38q5cj (c : GCommand) : Prop := (T2 ((True ∧ true = true) ∧ (True ∧ (bif (sets7 c.2.1) then (T2 ((True ∧ true = true) ∧ (T4 (bif (!(setOk c.2.2.2.2.2.1)) then (T2 (rB false (cmdOk c))) else (k08q5cj c))))) else (T3 (k08q5cj c))))))
def k18q5cj (c : GCommand) : Prop := (T4 (bif (eqI c.2.1 14) then (T2 ((True ∧ true = true) ∧ (T4 (bif (!(nameOk c.2.2.2.1)) then (T4 (rB false (cmdOk c))) else (k38q5cj c))))) else (T3 (k38q5cj c))))
theorem b_s_CommandOk (c : GCommand) : BCalls Tryz.prog 21 [.ag (cellsOf tyCommand c)] (.c (.bool (cmdOk c))) [] := by
  refine bc0 [e_s_TagOk, e_s_l1In, e_s_l7Said, e_s_SameCommand, e_s_l7Boxed, e_s_NameOk, e_s_l7Sets, e_s_SetOk, e_s_FlagsOk, e_s_FilterOk] [] [] [] L0 Tryz.func21 (fun hwf => ?_)
  refine Eq.mpr (β := (T2 ((true = true ∧ true = true) ∧ (T2 ((True ∧ true = true) ∧ (T2 (bif (!(tagOk c.1)) then (T4 (rB false (cmdOk c))) else (T2 ((True ∧ true = true) ∧ (T3 (bif (!(btw c.2.1 1 15)) then (T2 (rB false (cmdOk c))) else (T2 ((True ∧ true = true) ∧ ((True ∧ true = true) ∧ (T2 (bif (!(sameC (said c) c)) then (True ∧ (rB false (cmdOk c))) else (T2 ((True ∧ true = true) ∧ (True ∧ (bif (boxed7 c.2.1) then (T2 ((True ∧ true = true) ∧ (T3 (bif (!(nameOk c.2.2.1)) then (T6 (rB false (cmdOk c))) else (k18q5cj c))))) else (T2 (k18q5cj c)))))))))))))))))))))) (by kernel_rfl) ?_
  unfold k18q5cj k38q5cj k08q5cj k28q5cj T2 T3 T4 T6
  simp only [SIU, eq_self]
  repeat' (with_reducible first | exact trivial | apply And.intro | apply bifI | intro _)
  all_goals first
    | (with_reducible trivial)
    | omega
    | (with_reducible infer_instance)
    | (simp only [cmdOk, cond_true, cond_false, Int.toNat_natCast, *]; done)
    | (subst_vars; simp only [cmdOk, cond_true, cond_false, Int.toNat_natCast, *]; done)
    | (simp only [cmdOk, cond_true, cond_false, *]; exact leC_refl)
def e_s_CommandOk : Entry Tryz.prog := ⟨21, [.s tyCommand], fun x => True, fun x => .c (.bool (cmdOk x.1)), fun _ => [], fun x hx => b_s_CommandOk x.1, Tryz.call21⟩
end Go.Proofs.YtbpapaponnfagaaGreatDoor
