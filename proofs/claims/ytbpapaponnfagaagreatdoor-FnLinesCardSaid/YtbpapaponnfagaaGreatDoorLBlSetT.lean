/-
  Sets and their texts.
  No condition but what the arguments' cells hold. Printed by vcgen.py.
-/
import Derived.Test.YtbpapaponnfagaaGreatDoorLBlTok
set_option linter.unusedSimpArgs false
set_option linter.unusedVariables false
set_option maxRecDepth 100000
set_option maxHeartbeats 4000000
namespace Go.Proofs.YtbpapaponnfagaaGreatDoor
open Go.ChangeShapes Go.WideShapes Go.ChangeAt Go.RowKit Go.Joins Go.Deep
open GoRep (rep bulk)

def spOk (z : GSpan) : Bool := btw z.1 0 999999999 && btw z.2 0 999999999
def setOk (l : List GSpan) : Bool := decide (∀ i, i < l.length → spOk (nth_Span l i) = true) && btw ((l.length : Nat) : Int) 1 5
theorem set_no {l : List GSpan} {i : Nat} (hi : i < l.length) (h : spOk (nth_Span l i) = false) : setOk l = false := by
  unfold setOk
  rw [decide_eq_false (fun q => by rw [q i hi] at h; cases h)]
  rfl
theorem set_all {l : List GSpan} {k : Nat} (hk : ¬ ((k : Nat) : Int) < ((l.length : Nat) : Int)) (h : ∀ i, i < k → spOk (nth_Span l i) = true) : setOk l = btw ((l.length : Nat) : Int) 1 5 := by
  unfold setOk
  rw [decide_eq_true (fun i hi => h i (by omega))]
  rfl
theorem sp_no1 {z : GSpan} (h : btw z.1 0 999999999 = false) : spOk z = false := by unfold spOk; rw [h]; rfl
theorem sp_no2 {z : GSpan} (h : btw z.2 0 999999999 = false) : spOk z = false := by unfold spOk; rw [h, Bool.and_false]
theorem sp_yes {z : GSpan} (h1 : btw z.1 0 999999999 = true) (h2 : btw z.2 0 999999999 = true) : spOk z = true := by unfold spOk; rw [h1, h2]; rfl
def L_s_SetOk (l : List GSpan) : Nat → List AV → Mem → LoopA
  | 2, tm, M => ⟨Nat, fun y => (anyR (setA tm [(2, .any), (3, .c (.int .i64 ((y : Nat) : Int)))]) 4 22, M), fun y => (y ≤ List.length l ∧ ∀ j, j < y → spOk (nth_Span l j) = true), fun y => (List.length l - y)⟩
  | _, _, _ => ⟨Unit, fun _ => ([], []), fun _ => False, fun _ => 0⟩
theorem b_s_SetOk (l : List GSpan) : BCalls Tryz.prog 75 [.c (.hs .no tySpan l)] (.c (.bool (setOk l))) [] := by
  refine bc0 [e_s_l1In] [] [] [] (L_s_SetOk l) Tryz.func75 (fun hwf => ?_)
  refine Eq.mpr (β := (T2 ((∃ q : Nat, (q ≤ List.length l ∧ ∀ j, j < q → spOk (nth_Span l j) = true) ∧ ((lxs [.c (.hs .no tySpan l), .tp []] (True ∧ leV (.c (.int .i64 0)) (.c (.int .i64 ((q : Nat) : Int))) ∧ TN 22 (lxs [.tp [], .tp [], .tp []] True))) ∧ (True) ∧ true = true)) ∧ ∀ y0 : Nat, (y0 ≤ List.length l ∧ ∀ j, j < y0 → spOk (nth_Span l j) = true) → (T4 (bif (ltI ((y0 : Nat) : Int) ((List.length l : Nat) : Int)) then (T2 (((2 : Nat) = 2 ∧ (0 : Int) ≤ ((y0 : Nat) : Int) ∧ (((y0 : Nat) : Int) : Int) < ((List.length l : Nat) : Int)) ∧ (T2 ((True ∧ true = true) ∧ (T2 (bif (!(btw (nth_Span l (Int.toNat ((y0 : Nat) : Int))).1 0 999999999)) then (T2 (rB false (setOk l))) else (T2 (((2 : Nat) = 2 ∧ (0 : Int) ≤ ((y0 : Nat) : Int) ∧ (((y0 : Nat) : Int) : Int) < ((List.length l : Nat) : Int)) ∧ (T2 ((True ∧ true = true) ∧ (T2 (bif (!(btw (nth_Span l (Int.toNat ((y0 : Nat) : Int))).2 0 999999999)) then (True ∧ (rB false (setOk l))) else (T3 (∃ y0' : Nat, (y0' ≤ List.length l ∧ ∀ j, j < y0' → spOk (nth_Span l j) = true) ∧ (List.length l - y0') < (List.length l - y0) ∧ ((lxs [.c (.hs .no tySpan l), .tp []] (True ∧ leV (.c (.int .i64 (IntKind.wrap .i64 (((y0 : Nat) : Int) + 1)))) (.c (.int .i64 ((y0' : Nat) : Int))) ∧ TN 22 (lxs [.tp [], .tp [], .tp []] True))) ∧ (True) ∧ true = true))))))))))))))) else (T2 ((True ∧ true = true) ∧ (True ∧ (rB (btw ((List.length l : Nat) : Int) 1 5) (setOk l)))))))))) (by kernel_rfl) ?_
  unfold T2 T3 T4
  have hm : List.length l ≤ maxLen := hwf.1.1
  unfold maxLen at hm
  simp only [leB_rowU8, flagsOk, Bool.not_true, Bool.not_false, SI2A, eq_self]
  refine ⟨⟨0, ⟨Nat.zero_le _, allN_zero⟩, rfl⟩, fun y hy => ?_⟩
  repeat' (with_reducible first | exact trivial | apply And.intro | intro _)
  all_goals first
    | (with_reducible trivial)
    | omega
    | (with_reducible assumption)
    | exact (set_no (Int.ofNat_lt.1 (by assumption)) (sp_no1 (by assumption))).symm
    | exact (set_no (Int.ofNat_lt.1 (by assumption)) (sp_no2 (by assumption))).symm
    | exact ⟨y + 1, ⟨by omega, allN_step hy.2 (sp_yes (by assumption) (by assumption))⟩, by omega, wrapN (by unfold maxLen; omega)⟩
    | exact (set_all (by assumption) hy.2).symm
def e_s_SetOk : Entry Tryz.prog := ⟨75, [.v (.list tySpan)], fun x => True, fun x => .c (.bool (setOk x.1)), fun _ => [], fun x hx => b_s_SetOk x.1, Tryz.call75⟩
def n4 (n : Int) : ByteArray := (bif (eqI n 0) then (⟨#[42]⟩ : ByteArray) else (⟨(Lib.itoa n).toArray⟩ : ByteArray))
theorem b_s_l4Text (n : Int) (hpre : nonneg n) : BCalls Tryz.prog 187 [.c (.int .i64 n)] (.c (.str (n4 n))) [] := by
  refine bc0 [e_s_Digits] [] [] [] L0 Tryz.func187 (fun hwf => ?_)
  refine Eq.mpr (β := (True ∧ (True ∧ (True ∧ (bif (eqI n 0) then (True ∧ (rS (⟨#[42]⟩ : ByteArray) (n4 n))) else (True ∧ ((nonneg n ∧ true = true) ∧ (True ∧ (rS (⟨(Lib.itoa n).toArray⟩ : ByteArray) (n4 n)))))))))) (by kernel_rfl) ?_
  simp only [SIU, eq_self]
  repeat' (with_reducible first | exact trivial | apply And.intro | apply bifI | intro _)
  all_goals first
    | (with_reducible trivial)
    | omega
    | (with_reducible infer_instance)
    | (simp only [n4, cond_true, cond_false, Int.toNat_natCast, *]; done)
    | (subst_vars; simp only [n4, cond_true, cond_false, Int.toNat_natCast, *]; done)
    | (simp only [n4, cond_true, cond_false, *]; exact leC_refl)
    | exact hpre
def e_s_l4Text : Entry Tryz.prog := ⟨187, [.v tyInt], fun x => nonneg x.1, fun x => .c (.str (n4 x.1)), fun _ => [], fun x hx => b_s_l4Text x.1 hx, Tryz.call187⟩
theorem n4_size {n : Int} (h0 : 0 ≤ n) (h : n ≤ 999999999) : (n4 n).size ≤ 20 := by
  unfold n4
  simp only [bif_if]
  split
  · exact (show 1 ≤ 20 by decide)
  · exact itoa_sz (by omega)
def spT (z : GSpan) : ByteArray := if z.2 = z.1 then n4 z.1 else n4 z.1 ++ (⟨#[58]⟩ : ByteArray) ++ n4 z.2
def setW (l : List GSpan) : Nat → List ByteArray
  | 0 => []
  | k + 1 => setW l k ++ [spT (nth_Span l k)]
theorem setW_len (l : List GSpan) : ∀ k, (setW l k).length = k
  | 0 => rfl
  | k + 1 => by unfold setW; rw [List.length_append, setW_len l k]; rfl
def joN (l : List ByteArray) (by' : ByteArray) : Nat → List Int
  | 0 => []
  | k + 1 => (if 0 < k then joN l by' k ++ byteL by' else joN l by' k) ++ byteL (nth_String l k)
def joS (l : List ByteArray) (by' : ByteArray) : ByteArray := bytesOf (joN l by' l.length)
def joPre (l : List ByteArray) (by' : ByteArray) : Prop := l.length ≤ 1048576 ∧ by'.size ≤ 100 ∧ ∀ k, k < l.length → (nth_String l k).size ≤ 100
theorem joN_len {l : List ByteArray} {b : ByteArray} (h : joPre l b) : ∀ k, k ≤ l.length → (joN l b k).length ≤ 200 * k
  | 0, _ => Nat.le_refl _
  | k + 1, hk => by
    have h1 := joN_len h k (by omega)
    have h2 := h.2.2 k (by omega)
    have h3 := h.2.1
    unfold joN
    split <;> simp only [List.length_append, byteL_len] <;> omega
theorem joN_a {l : List ByteArray} {b : ByteArray} {k : Nat} (h : 0 < k) : joN l b (k + 1) = joN l b k ++ byteL b ++ byteL (nth_String l k) := by
  show (if _ then _ else _) ++ _ = _
  rw [if_pos h]
theorem joN_b {l : List ByteArray} {b : ByteArray} {k : Nat} (h : ¬ 0 < k) : joN l b (k + 1) = joN l b k ++ byteL (nth_String l k) := by
  show (if _ then _ else _) ++ _ = _
  rw [if_neg h]
theorem joS_size {l : List ByteArray} {b : ByteArray} (h : joPre l b) : (joS l b).size ≤ 200 * l.length := by
  unfold joS
  rw [bytesOf_size]
  exact joN_len h _ (Nat.le_refl _)
def L_s_Joined (l : List ByteArray) (b : ByteArray) : Nat → List AV → Mem → LoopA
  | 3, tm, M => ⟨Nat, fun y => (anyR (setA tm [(5, .c (.row 0 0)), (6, .c (.int .i64 ((y : Nat) : Int)))]) 7 18, setM M [(0, .row (.int .u8) (joN l b y) 0 0 none)]), fun y => (y ≤ List.length l), fun y => (List.length l - y)⟩
  | _, _, _ => ⟨Unit, fun _ => ([], []), fun _ => False, fun _ => 0⟩
theorem b_s_Joined (l : List ByteArray) (b : ByteArray) (hpre : joPre l b) : BCalls Tryz.prog 188 [.c (.hs .no tyStr l), .c (.str b)] (.c (.str (joS l b))) [] := by
  refine bc0 [] [] [] [] (L_s_Joined l b) Tryz.func188 (fun hwf => ?_)
  refine Eq.mpr (β := (T4 ((∃ q : Nat, (q ≤ List.length l) ∧ ((lxs [.c (.hs .no tyStr l), .c (.str b), .tp [], .tp [], .c (.str (⟨#[]⟩ : ByteArray)), .c (.row 0 0)] (leV (.c (.int .i64 0)) (.c (.int .i64 ((q : Nat) : Int))) ∧ TN 18 (lxs [.tp [], .tp []] True))) ∧ (leB (.row (.int .u8) ([] : List Int) 0 0 none) (.row (.int .u8) (joN l b q) 0 0 none) ∧ True) ∧ true = true)) ∧ ∀ y0 : Nat, (y0 ≤ List.length l) → (T4 (bif (ltI ((y0 : Nat) : Int) ((List.length l : Nat) : Int)) then (T2 (bif (gtI ((y0 : Nat) : Int) 0) then (T2 (List.length (joN l b y0) + List.length (byteL b) ≤ rowMax ∧ (T4 (((1 : Nat) = 1 ∧ (0 : Int) ≤ ((y0 : Nat) : Int) ∧ (((y0 : Nat) : Int) : Int) < ((List.length l : Nat) : Int)) ∧ (True ∧ (List.length ((joN l b y0) ++ (byteL b)) + List.length (byteL (nth_String l (Int.toNat ((y0 : Nat) : Int)))) ≤ rowMax ∧ (T4 (∃ y0' : Nat, (y0' ≤ List.length l) ∧ (List.length l - y0') < (List.length l - y0) ∧ ((lxs [.c (.hs .no tyStr l), .c (.str b), .tp [], .tp [], .c (.str (⟨#[]⟩ : ByteArray)), .c (.row 0 0)] (leV (.c (.int .i64 (IntKind.wrap .i64 (((y0 : Nat) : Int) + 1)))) (.c (.int .i64 ((y0' : Nat) : Int))) ∧ TN 18 (lxs [.tp [], .tp []] True))) ∧ (leB (.row (.int .u8) (((joN l b y0) ++ (byteL b)) ++ (byteL (nth_String l (Int.toNat ((y0 : Nat) : Int))))) 0 0 none) (.row (.int .u8) (joN l b y0') 0 0 none) ∧ True) ∧ true = true))))))))) else (T3 (((1 : Nat) = 1 ∧ (0 : Int) ≤ ((y0 : Nat) : Int) ∧ (((y0 : Nat) : Int) : Int) < ((List.length l : Nat) : Int)) ∧ (True ∧ (List.length (joN l b y0) + List.length (byteL (nth_String l (Int.toNat ((y0 : Nat) : Int)))) ≤ rowMax ∧ (T4 (∃ y0' : Nat, (y0' ≤ List.length l) ∧ (List.length l - y0') < (List.length l - y0) ∧ ((lxs [.c (.hs .no tyStr l), .c (.str b), .tp [], .tp [], .c (.str (⟨#[]⟩ : ByteArray)), .c (.row 0 0)] (leV (.c (.int .i64 (IntKind.wrap .i64 (((y0 : Nat) : Int) + 1)))) (.c (.int .i64 ((y0' : Nat) : Int))) ∧ TN 18 (lxs [.tp [], .tp []] True))) ∧ (leB (.row (.int .u8) ((joN l b y0) ++ (byteL (nth_String l (Int.toNat ((y0 : Nat) : Int))))) 0 0 none) (.row (.int .u8) (joN l b y0') 0 0 none) ∧ True) ∧ true = true))))))))) else (True ∧ (List.length (joN l b y0) ≤ maxLen ∧ (True ∧ (rS (bytesOf (joN l b y0)) (joS l b)))))))))) (by kernel_rfl) ?_
  unfold T2 T3 T4
  obtain ⟨p1, p2, p3⟩ := hpre
  simp only [leB_rowU8, btw_iff, btw_not, flagsOk, Bool.not_true, Bool.not_false, SI2A, eq_self]
  refine ⟨⟨0, Nat.zero_le _, rfl, rfl⟩, fun y hy => ?_⟩
  have hl := joN_len (l := l) (b := b) ⟨p1, p2, p3⟩ y hy
  have h3 := p3 y
  repeat' (with_reducible first | exact trivial | apply And.intro | intro _)
  all_goals first
    | (with_reducible trivial)
    | omega
    | (with_reducible assumption)
    | ((try simp only [List.length_append, List.length_cons, List.length_nil, byteL_len]); (first | unfold rowMax | unfold maxLen); omega)
    | exact ⟨y + 1, by omega, by omega, wrapN (by unfold maxLen; omega), (joN_a (by omega)).symm⟩
    | exact ⟨y + 1, by omega, by omega, wrapN (by unfold maxLen; omega), (joN_b (by omega)).symm⟩
    | (obtain rfl : y = List.length l := by omega
       rfl)
def e_s_Joined : Entry Tryz.prog := ⟨188, [.v (.list tyStr), .v tyStr], fun x => joPre x.1 x.2.1, fun x => .c (.str (joS x.1 x.2.1)), fun _ => [], fun x hx => b_s_Joined x.1 x.2.1 hx, Tryz.call188⟩
theorem nthS_of {l : List ByteArray} {i : Nat} {x : ByteArray} (h : l[i]? = some x) : nth_String l i = x := nth_of_get (t := tyStr) h
theorem nthS_get {l : List ByteArray} {i : Nat} (h : i < l.length) : l[i]? = some (nth_String l i) := nth_getElem? (t := tyStr) h
theorem setW_nth (l : List GSpan) : ∀ k j, j < k → nth_String (setW l k) j = spT (nth_Span l j)
  | 0, _, h => absurd h (Nat.not_lt_zero _)
  | k + 1, j, h => by
    have e : setW l (k + 1) = setW l k ++ [spT (nth_Span l k)] := rfl
    have hl := setW_len l k
    rw [e]
    by_cases hj : j = k
    · subst hj
      exact nthS_of (by rw [List.getElem?_append_right (by omega), hl, Nat.sub_self]; rfl)
    · have h2 := setW_nth l k j (by omega)
      rw [← h2]
      have hlt : j < (setW l k).length := by omega
      refine nthS_of ?_
      rw [List.getElem?_append_left hlt]
      exact nthS_get hlt
theorem spT_size {z : GSpan} (h : spOk z = true) : (spT z).size ≤ 100 := by
  unfold spOk at h
  rw [Bool.and_eq_true, btw_iff, btw_iff] at h
  have h1 := n4_size h.1.1 h.1.2
  have h2 := n4_size h.2.1 h.2.2
  unfold spT
  split
  · omega
  · rw [ByteArray.size_append, ByteArray.size_append]
    show _ + 1 + _ ≤ 100
    omega
def setT (l : List GSpan) : ByteArray := if setOk l = true then joS (setW l l.length) (⟨#[44]⟩ : ByteArray) else ⟨#[]⟩
theorem setOk_at {l : List GSpan} (h : setOk l = true) {i : Nat} (hi : i < l.length) : spOk (nth_Span l i) = true := by
  unfold setOk at h
  rw [Bool.and_eq_true, decide_eq_true_eq] at h
  exact h.1 i hi
theorem setOk_len {l : List GSpan} (h : setOk l = true) : 1 ≤ l.length ∧ l.length ≤ 5 := by
  unfold setOk at h
  rw [Bool.and_eq_true, btw_iff] at h
  omega
theorem setPre {l : List GSpan} (h : setOk l = true) : joPre (setW l l.length) (⟨#[44]⟩ : ByteArray) := by
  have := setOk_len h
  refine ⟨by rw [setW_len]; omega, (show 1 ≤ 100 by decide), fun k hk => ?_⟩
  rw [setW_len] at hk
  rw [setW_nth l _ k hk]
  exact spT_size (setOk_at h hk)
theorem spT_eq {z : GSpan} (h : z.2 = z.1) : spT z = n4 z.1 := if_pos h
theorem spT_ne {z : GSpan} (h : ¬ z.2 = z.1) : spT z = n4 z.1 ++ (⟨#[58]⟩ : ByteArray) ++ n4 z.2 := if_neg h
def L_s_SetText (l : List GSpan) : Nat → List AV → Mem → LoopA
  | 5, tm, M => ⟨Nat, fun y => (anyR (setA tm [(3, .c (.row 0 0)), (4, .c (.int .i64 ((y : Nat) : Int))), (5, .any)]) 9 37, setM M [(0, .row tyStr (setW l y) 0 0 none)]), fun y => (y ≤ List.length l), fun y => (List.length l - y)⟩
  | _, _, _ => ⟨Unit, fun _ => ([], []), fun _ => False, fun _ => 0⟩
def k0ex7ob (y0 : Nat) (l : List GSpan) : Prop := ((2 : Nat) = 2 ∧ (0 : Int) ≤ ((y0 : Nat) : Int) ∧ (((y0 : Nat) : Int) : Int) < ((List.length l : Nat) : Int))
def k1ex7ob (y0 : Nat) (y0' : Nat) (l : List GSpan) : Prop := (leV (.c (.int .i64 (IntKind.wrap .i64 (((y0 : Nat) : Int) + 1)))) (.c (.int .i64 ((y0' : Nat) : Int))) ∧ True ∧ lxs [.c (.hs .no tySpan l), .c (.bool (setOk l)), .c (.bool false)] (TN 37 (lxs [.tp [], .tp []] True)))
theorem b_s_SetText (l : List GSpan) : BCalls Tryz.prog 125 [.c (.hs .no tySpan l)] (.c (.str (setT l))) [] := by
  refine bc0 [e_s_SetOk, e_s_l4Text, e_s_Joined] [] [] [] (L_s_SetText l) Tryz.func125 (fun hwf => ?_)
  refine Eq.mpr (β := (T2 ((True ∧ true = true) ∧ (True ∧ (bif (!(setOk l)) then (True ∧ (rS (⟨#[]⟩ : ByteArray) (setT l))) else (T3 ((∃ q : Nat, (q ≤ List.length l) ∧ ((lxs [.c (.hs .no tySpan l), .tp [], .c (.str (⟨#[]⟩ : ByteArray)), .c (.row 0 0)] (leV (.c (.int .i64 0)) (.c (.int .i64 ((q : Nat) : Int))) ∧ True ∧ lxs [.c (.hs .no tySpan l), .c (.bool (setOk l)), .c (.bool false)] (TN 37 (lxs [.tp [], .tp []] True)))) ∧ (leB (.row tyStr ([] : List ByteArray) 0 0 none) (.row tyStr (setW l q) 0 0 none) ∧ True) ∧ true = true)) ∧ ∀ y0 : Nat, (y0 ≤ List.length l) → (T4 (bif (ltI ((y0 : Nat) : Int) ((List.length l : Nat) : Int)) then (T2 ((k0ex7ob y0 l) ∧ (T2 ((nonneg (nth_Span l (Int.toNat ((y0 : Nat) : Int))).1 ∧ true = true) ∧ (True ∧ ((true = true ∧ true = true) ∧ (T2 ((k0ex7ob y0 l) ∧ (T4 ((k0ex7ob y0 l) ∧ (T3 (bif (neI (nth_Span l (Int.toNat ((y0 : Nat) : Int))).2 (nth_Span l (Int.toNat ((y0 : Nat) : Int))).1) then (True ∧ (ByteArray.size (n4 (nth_Span l (Int.toNat ((y0 : Nat) : Int))).1) + ByteArray.size (⟨#[58]⟩ : ByteArray) ≤ maxLen ∧ (T2 ((k0ex7ob y0 l) ∧ (T2 ((nonneg (nth_Span l (Int.toNat ((y0 : Nat) : Int))).2 ∧ true = true) ∧ (ByteArray.size ((n4 (nth_Span l (Int.toNat ((y0 : Nat) : Int))).1) ++ (⟨#[58]⟩ : ByteArray)) + ByteArray.size (n4 (nth_Span l (Int.toNat ((y0 : Nat) : Int))).2) ≤ maxLen ∧ (T4 ((True ∧ List.length (setW l y0) + List.length ([(((n4 (nth_Span l (Int.toNat ((y0 : Nat) : Int))).1) ++ (⟨#[58]⟩ : ByteArray)) ++ (n4 (nth_Span l (Int.toNat ((y0 : Nat) : Int))).2))]) ≤ rowMax) ∧ (T4 (∃ y0' : Nat, (y0' ≤ List.length l) ∧ (List.length l - y0') < (List.length l - y0) ∧ ((lxs [.c (.hs .no tySpan l), .tp [], .c (.str (⟨#[]⟩ : ByteArray)), .c (.row 0 0)] (k1ex7ob y0 y0' l)) ∧ (leB (.row tyStr ((setW l y0) ++ [(((n4 (nth_Span l (Int.toNat ((y0 : Nat) : Int))).1) ++ (⟨#[58]⟩ : ByteArray)) ++ (n4 (nth_Span l (Int.toNat ((y0 : Nat) : Int))).2))]) 0 0 none) (.row tyStr (setW l y0') 0 0 none) ∧ True) ∧ true = true)))))))))))) else (T3 ((True ∧ List.length (setW l y0) + List.length ([(n4 (nth_Span l (Int.toNat ((y0 : Nat) : Int))).1)]) ≤ rowMax) ∧ (T4 (∃ y0' : Nat, (y0' ≤ List.length l) ∧ (List.length l - y0') < (List.length l - y0) ∧ ((lxs [.c (.hs .no tySpan l), .tp [], .c (.str (⟨#[]⟩ : ByteArray)), .c (.row 0 0)] (k1ex7ob y0 y0' l)) ∧ (leB (.row tyStr ((setW l y0) ++ [(n4 (nth_Span l (Int.toNat ((y0 : Nat) : Int))).1)]) 0 0 none) (.row tyStr (setW l y0') 0 0 none) ∧ True) ∧ true = true))))))))))))))))) else (True ∧ ((joPre (setW l y0) (⟨#[44]⟩ : ByteArray) ∧ true = true ∧ true = true) ∧ (True ∧ (rS (joS (setW l y0) (⟨#[44]⟩ : ByteArray)) (setT l)))))))))))))) (by kernel_rfl) ?_
  unfold k1ex7ob k0ex7ob T2 T3 T4
  cases hs : setOk l with
  | false =>
    simp only [leB_rowU8, btw_iff, btw_not, flagsOk, Bool.not_true, Bool.not_false, SI2A, eq_self]
    simp only [setT, hs, Bool.not_false, cond_true, Bool.false_eq_true, if_false, SI2A, eq_self]
    repeat' (with_reducible first | exact trivial | apply And.intro | intro _)
    all_goals first
      | (with_reducible trivial)
      | omega
      | (with_reducible assumption)
      | rfl
      | (exfalso; simp_all; done)
  | true =>
    have hk := fun k h => setOk_at hs (i := k) h
    have hlen := setOk_len hs
    simp only [leB_rowU8, btw_iff, btw_not, flagsOk, Bool.not_true, Bool.not_false, SI2A, eq_self]
    refine ⟨fun h => ?_, fun _ => ⟨⟨0, Nat.zero_le _, rfl, rfl⟩, fun y hy => ?_⟩⟩
    · exact absurd h (by decide)
    have hz : ∀ h : y < List.length l, (0 ≤ (nth_Span l y).1 ∧ (nth_Span l y).1 ≤ 999999999) ∧ (0 ≤ (nth_Span l y).2 ∧ (nth_Span l y).2 ≤ 999999999) := fun h => by
      have := hk y h
      unfold spOk at this
      rw [Bool.and_eq_true, btw_iff, btw_iff] at this
      exact this
    repeat' (with_reducible first | exact trivial | apply And.intro | intro _)
    all_goals first
      | (with_reducible trivial)
      | omega
      | (with_reducible assumption)
      | exact (hz (by omega)).1.1
      | exact (hz (by omega)).2.1
      | (have hh := hz (by omega); have n1 := n4_size hh.1.1 hh.1.2; have n2 := n4_size hh.2.1 hh.2.2; (try simp only [ByteArray.size_append, show ByteArray.size (⟨#[58]⟩ : ByteArray) = 1 from rfl]); unfold maxLen; omega)
      | (rw [setW_len, List.length_singleton]; unfold rowMax; omega)
      | (refine ⟨y + 1, by omega, by omega, wrapN (by unfold maxLen; omega), ?_⟩; show _ = setW l y ++ [_]; rw [spT_ne (by assumption)])
      | (refine ⟨y + 1, by omega, by omega, wrapN (by unfold maxLen; omega), ?_⟩; show _ = setW l y ++ [_]; rw [spT_eq (by assumption)])
      | (obtain rfl : y = List.length l := by omega
         exact setPre hs)
      | (obtain rfl : y = List.length l := by omega
         exact (if_pos hs).symm)
def e_s_SetText : Entry Tryz.prog := ⟨125, [.v (.list tySpan)], fun x => True, fun x => .c (.str (setT x.1)), fun _ => [], fun x hx => b_s_SetText x.1, Tryz.call125⟩
end Go.Proofs.YtbpapaponnfagaaGreatDoor
