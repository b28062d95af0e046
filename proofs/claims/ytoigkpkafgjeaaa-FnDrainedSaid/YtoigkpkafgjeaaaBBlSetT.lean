/-
  Sets and their texts.
  No condition but what the arguments' cells hold. Printed by vcgen.py.
-/
import Derived.Test.YtoigkpkafgjeaaaBBlTok
set_option linter.unusedSimpArgs false
set_option linter.unusedVariables false
set_option maxRecDepth 100000
set_option maxHeartbeats 4000000
namespace Go.Proofs.Ytoigkpkafgjeaaa
open Go.ChangeShapes Go.WideShapes Go.ChangeAt Go.RowKit Go.Joins Go.Deep
open GoRep (rep bulk)

def joN (l : List ByteArray) (by' : ByteArray) : Nat → List Int
  | 0 => []
  | k + 1 => (if 0 < k then joN l by' k ++ byteL by' else joN l by' k) ++ byteL (nth_String l k)
def joS (l : List ByteArray) (by' : ByteArray) : ByteArray := bytesOf (joN l by' l.length)
def joPre (l : List ByteArray) (by' : ByteArray) : Prop := l.length ≤ 1048576 ∧ by'.size ≤ 100 ∧ ∀ k, k < l.length → (nth_String l k).size ≤ 100
theorem joN_len {l : List ByteArray} {b : ByteArray} (h : joPre l b) : ∀ k, k ≤ l.length → (joN l b k).length ≤ 200 * k
  | 0, _ => Nat.le_refl _
  | k + 1, hk => by
    have h1 := joN_len h k (by omega)
    have h2 := h.2.2 k (by omega)
    have h3 := h.2.1
    unfold joN
    split <;> simp only [List.length_append, byteL_len] <;> omega
theorem joN_a {l : List ByteArray} {b : ByteArray} {k : Nat} (h : 0 < k) : joN l b (k + 1) = joN l b k ++ byteL b ++ byteL (nth_String l k) := by
  show (if _ then _ else _) ++ _ = _
  rw [if_pos h]
theorem joN_b {l : List ByteArray} {b : ByteArray} {k : Nat} (h : ¬ 0 < k) : joN l b (k + 1) = joN l b k ++ byteL (nth_String l k) := by
  show (if _ then _ else _) ++ _ = _
  rw [if_neg h]
theorem joS_size {l : List ByteArray} {b : ByteArray} (h : joPre l b) : (joS l b).size ≤ 200 * l.length := by
  unfold joS
  rw [bytesOf_size]
  exact joN_len h _ (Nat.le_refl _)
def L_s_Joined (l : List ByteArray) (b : ByteArray) : Nat → List AV → Mem → LoopA
  | 3, tm, M => ⟨Nat, fun y => (anyR (setA tm [(5, .c (.row 0 0)), (6, .c (.int .i64 ((y : Nat) : Int)))]) 7 18, setM M [(0, .row (.int .u8) (joN l b y) 0 0 none)]), fun y => (y ≤ List.length l), fun y => (List.length l - y)⟩
  | _, _, _ => ⟨Unit, fun _ => ([], []), fun _ => False, fun _ => 0⟩
theorem b_s_Joined (l : List ByteArray) (b : ByteArray) (hpre : joPre l b) : BCalls Try.prog 118 [.c (.hs .no tyStr l), .c (.str b)] (.c (.str (joS l b))) [] := by
  refine bc0 [] [] [] [] (L_s_Joined l b) Try.func118 (fun hwf => ?_)
  refine Eq.mpr (β := (T4 ((∃ q : Nat, (q ≤ List.length l) ∧ ((lxs [.c (.hs .no tyStr l), .c (.str b), .tp [], .tp [], .c (.str (⟨#[]⟩ : ByteArray)), .c (.row 0 0)] (leV (.c (.int .i64 0)) (.c (.int .i64 ((q : Nat) : Int))) ∧ TN 18 (lxs [.tp [], .tp []] True))) ∧ (leB (.row (.int .u8) ([] : List Int) 0 0 none) (.row (.int .u8) (joN l b q) 0 0 none) ∧ True) ∧ true = true)) ∧ ∀ y0 : Nat, (y0 ≤ List.length l) → (T4 (bif (ltI ((y0 : Nat) : Int) ((List.length l : Nat) : Int)) then (T2 (bif (gtI ((y0 : Nat) : Int) 0) then (T2 (List.length (joN l b y0) + List.length (byteL b) ≤ rowMax ∧ (T4 (((1 : Nat) = 1 ∧ (0 : Int) ≤ ((y0 : Nat) : Int) ∧ (((y0 : Nat) : Int) : Int) < ((List.length l : Nat) : Int)) ∧ (True ∧ (List.length ((joN l b y0) ++ (byteL b)) + List.length (byteL (nth_String l (Int.toNat ((y0 : Nat) : Int)))) ≤ rowMax ∧ (T4 (∃ y0' : Nat, (y0' ≤ List.length l) ∧ (List.length l - y0') < (List.length l - y0) ∧ ((lxs [.c (.hs .no tyStr l), .c (.str b), .tp [], .tp [], .c (.str (⟨#[]⟩ : ByteArray)), .c (.row 0 0)] (leV (.c (.int .i64 (IntKind.wrap .i64 (((y0 : Nat) : Int) + 1)))) (.c (.int .i64 ((y0' : Nat) : Int))) ∧ TN 18 (lxs [.tp [], .tp []] True))) ∧ (leB (.row (.int .u8) (((joN l b y0) ++ (byteL b)) ++ (byteL (nth_String l (Int.toNat ((y0 : Nat) : Int))))) 0 0 none) (.row (.int .u8) (joN l b y0') 0 0 none) ∧ True) ∧ true = true))))))))) else (T3 (((1 : Nat) = 1 ∧ (0 : Int) ≤ ((y0 : Nat) : Int) ∧ (((y0 : Nat) : Int) : Int) < ((List.length l : Nat) : Int)) ∧ (True ∧ (List.length (joN l b y0) + List.length (byteL (nth_String l (Int.toNat ((y0 : Nat) : Int)))) ≤ rowMax ∧ (T4 (∃ y0' : Nat, (y0' ≤ List.length l) ∧ (List.length l - y0') < (List.length l - y0) ∧ ((lxs [.c (.hs .no tyStr l), .c (.str b), .tp [], .tp [], .c (.str (⟨#[]⟩ : ByteArray)), .c (.row 0 0)] (leV (.c (.int .i64 (IntKind.wrap .i64 (((y0 : Nat) : Int) + 1)))) (.c (.int .i64 ((y0' : Nat) : Int))) ∧ TN 18 (lxs [.tp [], .tp []] True))) ∧ (leB (.row (.int .u8) ((joN l b y0) ++ (byteL (nth_String l (Int.toNat ((y0 : Nat) : Int))))) 0 0 none) (.row (.int .u8) (joN l b y0') 0 0 none) ∧ True) ∧ true = true))))))))) else (True ∧ (List.length (joN l b y0) ≤ maxLen ∧ (True ∧ (rS (bytesOf (joN l b y0)) (joS l b)))))))))) (by kernel_rfl) ?_
  unfold T2 T3 T4
  obtain ⟨p1, p2, p3⟩ := hpre
  simp only [leB_rowU8, btw_iff, btw_not, flagsOk, Bool.not_true, Bool.not_false, SI2A, eq_self]
  refine ⟨⟨0, Nat.zero_le _, rfl, rfl⟩, fun y hy => ?_⟩
  have hl := joN_len (l := l) (b := b) ⟨p1, p2, p3⟩ y hy
  have h3 := p3 y
  repeat' (with_reducible first | exact trivial | apply And.intro | intro _)
  all_goals first
    | (with_reducible trivial)
    | omega
    | (with_reducible assumption)
    | ((try simp only [List.length_append, List.length_cons, List.length_nil, byteL_len]); (first | unfold rowMax | unfold maxLen); omega)
    | exact ⟨y + 1, by omega, by omega, wrapN (by unfold maxLen; omega), (joN_a (by omega)).symm⟩
    | exact ⟨y + 1, by omega, by omega, wrapN (by unfold maxLen; omega), (joN_b (by omega)).symm⟩
    | (obtain rfl : y = List.length l := by omega
       rfl)
def e_s_Joined : Entry Try.prog := ⟨118, [.v (.list tyStr), .v tyStr], fun x => joPre x.1 x.2.1, fun x => .c (.str (joS x.1 x.2.1)), fun _ => [], fun x hx => b_s_Joined x.1 x.2.1 hx, Try.call118⟩
theorem nthS_get {l : List ByteArray} {i : Nat} (h : i < l.length) : l[i]? = some (nth_String l i) := nth_getElem? (t := tyStr) h
end Go.Proofs.Ytoigkpkafgjeaaa
