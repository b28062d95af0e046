/-
  Lines of replies: the reference.
  No condition but what the arguments' cells hold. Printed by vcgen.py.
-/
import Derived.Test.YtklnpeckhbiloaaGreatDoorKBlRep
set_option linter.unusedSimpArgs false
set_option linter.unusedVariables false
set_option maxRecDepth 100000
set_option maxHeartbeats 4000000
namespace Go.Proofs.YtklnpeckhbiloaaGreatDoor
open Go.ChangeShapes Go.WideShapes Go.ChangeAt Go.RowKit Go.Joins Go.Deep
open GoRep (rep bulk)

theorem cond_size {c : Bool} {a b : ByteArray} {n : Nat} (h1 : a.size ≤ n) (h2 : b.size ≤ n) : (bif c then a else b).size ≤ n := by cases c <;> assumption
theorem replyT_size (r : GReply) : (replyT r).size ≤ 2200 := by
  unfold replyT
  cases ho : replyOk r with
  | false => exact Nat.zero_le _
  | true =>
    obtain ⟨hn, hu, hm, ht⟩ := rok_facts ho
    have d1 := itoa_len (n := r.2.1) (by omega)
    have d2 := itoa_len (n := r.2.2.1) (by omega)
    have d3 := flagT_size r.2.2.2.1
    have d4 := hexS_size r.2.2.2.2.2
    have d5 := wordT_size r.1
    simp only [Bool.not_true, cond_false]
    repeat' (with_reducible refine cond_size ?_ ?_)
    all_goals ((try simp only [ByteArray.size_append, szL, List.size_toArray, List.length_cons, List.length_nil]); omega)
def linesN (l : List GReply) : Nat → List Int
  | 0 => []
  | k + 1 => linesN l k ++ byteL (replyT (nth_Commit l k)) ++ [13, 10]
def linesT (l : List GReply) : ByteArray := bytesOf (linesN l l.length)
theorem linesN_len (l : List GReply) : ∀ k, (linesN l k).length ≤ 2202 * k
  | 0 => Nat.le_refl _
  | k + 1 => by
    have := linesN_len l k
    have h := replyT_size (nth_Commit l k)
    unfold linesN
    simp only [List.length_append, byteL_len, List.length_cons, List.length_nil]
    omega
def rightR (l : List GReply) : Bool := !List.any l (fun z => !replyOk z)
theorem right_no {l : List GReply} {k : Nat} (hk : k < l.length) (h : replyOk (nth_Commit l k) = false) : rightR l = false := by
  have e : List.any l (fun z : GReply => !replyOk z) = true := any_at_nth (t := tyCommit) (p := fun z : GReply => !replyOk z) hk (by show (!replyOk (nth_Commit l k)) = true; rw [h]; rfl)
  unfold rightR
  simp only [e, Bool.not_true]
theorem right_yes {l : List GReply} (h : ∀ j, j < l.length → replyOk (nth_Commit l j) = true) : rightR l = true := by
  have e : List.any l (fun z : GReply => !replyOk z) = false := any_of_nth (t := tyCommit) (p := fun z : GReply => !replyOk z) (fun j hj => by show (!replyOk (nth_Commit l j)) = false; rw [h j hj]; rfl)
  unfold rightR
  simp only [e, Bool.not_false]
def fitsB (o : GOut) (l : List GReply) : Bool := outOk o && (rightR l && leI ((ByteArray.size o.1 + ByteArray.size (linesT l) : Nat) : Int) 1200)
def L_s_LinesText (l : List GCommit) : Nat → List AV → Mem → LoopA
  | 3, tm, M => ⟨Nat, fun y => (anyR (setA tm [(3, .c (.row 0 0)), (4, .c (.int .i64 ((y : Nat) : Int)))]) 5 17, setM M [(0, .row (.int .u8) (linesN l y) 0 0 none)]), fun y => (y ≤ List.length l), fun y => (List.length l - y)⟩
  | _, _, _ => ⟨Unit, fun _ => ([], []), fun _ => False, fun _ => 0⟩
theorem b_s_LinesText (l : List GCommit) (hpre : List.length l ≤ 1048576) : BCalls Tryz.prog 18 [.c (.hs .no tyCommit l)] (.c (.str (linesT l))) [] := by
  refine bc0 [e_s_ReplyText] [] [] [] (L_s_LinesText l) Tryz.func18 (fun hwf => ?_)
  refine Eq.mpr (β := (T4 ((∃ q : Nat, (q ≤ List.length l) ∧ ((lxs [.c (.hs .no tyCommit l), .tp [], .c (.str (⟨#[]⟩ : ByteArray)), .c (.row 0 0)] (leV (.c (.int .i64 0)) (.c (.int .i64 ((q : Nat) : Int))) ∧ TN 17 (lxs [.tp [], .tp []] True))) ∧ (leB (.row (.int .u8) ([] : List Int) 0 0 none) (.row (.int .u8) (linesN l q) 0 0 none) ∧ True) ∧ true = true)) ∧ ∀ y0 : Nat, (y0 ≤ List.length l) → (T4 (bif (ltI ((y0 : Nat) : Int) ((List.length l : Nat) : Int)) then (T3 (((6 : Nat) = 6 ∧ (0 : Int) ≤ ((y0 : Nat) : Int) ∧ (((y0 : Nat) : Int) : Int) < ((List.length l : Nat) : Int)) ∧ (True ∧ ((True ∧ true = true) ∧ (List.length (linesN l y0) + List.length (byteL (replyT (nth_Commit l (Int.toNat ((y0 : Nat) : Int))))) ≤ rowMax ∧ (T3 ((True ∧ List.length ((linesN l y0) ++ (byteL (replyT (nth_Commit l (Int.toNat ((y0 : Nat) : Int)))))) + List.length ([13, 10] : List Int) ≤ rowMax) ∧ (T4 (∃ y0' : Nat, (y0' ≤ List.length l) ∧ (List.length l - y0') < (List.length l - y0) ∧ ((lxs [.c (.hs .no tyCommit l), .tp [], .c (.str (⟨#[]⟩ : ByteArray)), .c (.row 0 0)] (leV (.c (.int .i64 (IntKind.wrap .i64 (((y0 : Nat) : Int) + 1)))) (.c (.int .i64 ((y0' : Nat) : Int))) ∧ TN 17 (lxs [.tp [], .tp []] True))) ∧ (leB (.row (.int .u8) (((linesN l y0) ++ (byteL (replyT (nth_Commit l (Int.toNat ((y0 : Nat) : Int)))))) ++ ([13, 10] : List Int)) 0 0 none) (.row (.int .u8) (linesN l y0') 0 0 none) ∧ True) ∧ true = true)))))))))) else (True ∧ (List.length (linesN l y0) ≤ maxLen ∧ (True ∧ (rS (bytesOf (linesN l y0)) (linesT l)))))))))) (by kernel_rfl) ?_
  unfold T3 T4
  have hp : List.length l ≤ 1048576 := hpre
  simp only [leB_rowU8, btw_iff, btw_not, flagsOk, Bool.not_true, Bool.not_false, SI2A, eq_self]
  refine ⟨⟨0, Nat.zero_le _, rfl, rfl⟩, fun y hy => ?_⟩
  have hl := linesN_len l y
  have hr := replyT_size (nth_Commit l y)
  repeat' (with_reducible first | exact trivial | apply And.intro | intro _)
  all_goals first
    | (with_reducible trivial)
    | omega
    | (with_reducible assumption)
    | ((try simp only [List.length_append, List.length_cons, List.length_nil, byteL_len]); (first | unfold rowMax | unfold maxLen); omega)
    | exact ⟨y + 1, by omega, by omega, wrapN (by unfold maxLen; omega), rfl⟩
    | (obtain rfl : y = List.length l := by omega
       rfl)
def e_s_LinesText : Entry Tryz.prog := ⟨18, [.v (.list tyCommit)], fun x => List.length x.1 ≤ 1048576, fun x => .c (.str (linesT x.1)), fun _ => [], fun x hx => b_s_LinesText x.1 hx, Tryz.call18⟩
def L_s_l17Right (l : List GCommit) : Nat → List AV → Mem → LoopA
  | 2, tm, M => ⟨Nat, fun y => (anyR (setA tm [(2, .any), (3, .c (.int .i64 ((y : Nat) : Int)))]) 4 12, M), fun y => (y ≤ List.length l ∧ ∀ j, j < y → replyOk (nth_Commit l j) = true), fun y => (List.length l - y)⟩
  | _, _, _ => ⟨Unit, fun _ => ([], []), fun _ => False, fun _ => 0⟩
theorem b_s_l17Right (l : List GCommit) : BCalls Tryz.prog 56 [.c (.hs .no tyCommit l)] (.c (.bool (rightR l))) [] := by
  refine bc0 [e_s_ReplyOk] [] [] [] (L_s_l17Right l) Tryz.func56 (fun hwf => ?_)
  refine Eq.mpr (β := (T2 ((∃ q : Nat, (q ≤ List.length l ∧ ∀ j, j < q → replyOk (nth_Commit l j) = true) ∧ ((lxs [.c (.hs .no tyCommit l), .tp []] (True ∧ leV (.c (.int .i64 0)) (.c (.int .i64 ((q : Nat) : Int))) ∧ TN 12 True)) ∧ (True) ∧ true = true)) ∧ ∀ y0 : Nat, (y0 ≤ List.length l ∧ ∀ j, j < y0 → replyOk (nth_Commit l j) = true) → (T4 (bif (ltI ((y0 : Nat) : Int) ((List.length l : Nat) : Int)) then (T2 (((6 : Nat) = 6 ∧ (0 : Int) ≤ ((y0 : Nat) : Int) ∧ (((y0 : Nat) : Int) : Int) < ((List.length l : Nat) : Int)) ∧ (True ∧ ((True ∧ true = true) ∧ (True ∧ (bif (!(replyOk (nth_Commit l (Int.toNat ((y0 : Nat) : Int))))) then (True ∧ (rB false (rightR l))) else (T3 (∃ y0' : Nat, (y0' ≤ List.length l ∧ ∀ j, j < y0' → replyOk (nth_Commit l j) = true) ∧ (List.length l - y0') < (List.length l - y0) ∧ ((lxs [.c (.hs .no tyCommit l), .tp []] (True ∧ leV (.c (.int .i64 (IntKind.wrap .i64 (((y0 : Nat) : Int) + 1)))) (.c (.int .i64 ((y0' : Nat) : Int))) ∧ TN 12 True)) ∧ (True) ∧ true = true))))))))) else (True ∧ (rB true (rightR l)))))))) (by kernel_rfl) ?_
  unfold T2 T3 T4
  have hm : List.length l ≤ maxLen := hwf.1.1
  simp only [SI2A, eq_self]
  refine ⟨⟨0, ⟨Nat.zero_le _, allN_zero⟩, rfl⟩, fun y hy => ?_⟩
  repeat' (with_reducible first | exact trivial | apply And.intro | intro _)
  all_goals first
    | (with_reducible trivial)
    | omega
    | (with_reducible assumption)
    | (rename_i h1 h2; exact (right_no (Int.ofNat_lt.1 h1) h2).symm)
    | (rename_i h1 h2; exact ⟨y + 1, ⟨by omega, allN_step hy.2 h2⟩, by omega, wrapN (by omega)⟩)
    | (rename_i hge; obtain rfl : y = List.length l := by omega
       exact (right_yes hy.2).symm)
def e_s_l17Right : Entry Tryz.prog := ⟨56, [.v (.list tyCommit)], fun x => True, fun x => .c (.bool (rightR x.1)), fun _ => [], fun x hx => b_s_l17Right x.1, Tryz.call56⟩
end Go.Proofs.YtklnpeckhbiloaaGreatDoor
