/-
  Tokens of a filter: the program.
  No condition but what the arguments' cells hold. Printed by vcgen.py.
-/
import Derived.Test.YtoigkpkafgjeaaaABlCmd3
set_option linter.unusedSimpArgs false
set_option linter.unusedVariables false
set_option maxRecDepth 100000
set_option maxHeartbeats 4000000
namespace Go.Proofs.Ytoigkpkafgjeaaa
open Go.ChangeShapes Go.WideShapes Go.ChangeAt Go.RowKit Go.Joins Go.Deep
open GoRep (rep bulk)

def L_i_namesOf (ws : List ByteArray) (b : Int) : Nat → List AV → Mem → LoopA
  | 3, tm, M => ⟨Nat, fun y => (anyR (anyR (setA tm [(5, .c (.row 0 0)), (11, .c (.int .i64 ((y : Nat) : Int)))]) 6 3) 12 14, setM M [(0, .row tyStr (namesN ws b y) 0 0 none)]), fun y => (y ≤ List.length ws), fun y => (List.length ws - y)⟩
  | _, _, _ => ⟨Unit, fun _ => ([], []), fun _ => False, fun _ => 0⟩
theorem b_i_namesOf (ws : List ByteArray) (b : Int) (hpre : List.length ws ≤ 1048576) : BCalls Try.prog 33 [.c (.hs .no tyStr ws), .c (.int .i64 b)] (.c (.row 0 0)) [.row tyStr (namesN ws b (List.length ws)) 0 0 none] := by
  refine bc0 [] [] [] [] (L_i_namesOf ws b) Try.func33 (fun hwf => ?_)
  refine Eq.mpr (β := (T6 ((∃ q : Nat, (q ≤ List.length ws) ∧ ((lxs [.c (.hs .no tyStr ws), .c (.int .i64 b), .tp [], .tp [], .c (.raw (.slice none 0 0)), .c (.row 0 0)] (TN 3 (lxs [.c (.hs .no tyStr ws), .c (.int .i64 ((List.length ws : Nat) : Int))] (leV (.c (.int .i64 0)) (.c (.int .i64 ((q : Nat) : Int))) ∧ TN 14 (lxs [.tp []] True))))) ∧ (leB (.row tyStr ([] : List ByteArray) 0 0 none) (.row tyStr (namesN ws b q) 0 0 none) ∧ True) ∧ true = true)) ∧ ∀ y0 : Nat, (y0 ≤ List.length ws) → (True ∧ (bif (ltI ((y0 : Nat) : Int) ((List.length ws : Nat) : Int)) then (True ∧ (((1 : Nat) = 1 ∧ (0 : Int) ≤ ((y0 : Nat) : Int) ∧ (((y0 : Nat) : Int) : Int) < ((List.length ws : Nat) : Int)) ∧ (T5 ((0 : Int) ≤ ((y0 : Nat) : Int) ∧ (T2 (bif (eqI (IntKind.wrap .i64 (((BitVec.ofInt (IntKind.bits .i64) (shrI .i64 b ((y0 : Nat) : Int)) &&& BitVec.ofInt (IntKind.bits .i64) 1).toNat : Nat))) 1) then (T3 ((True ∧ List.length (namesN ws b y0) + List.length ([(nth_String ws (Int.toNat ((y0 : Nat) : Int)))]) ≤ rowMax) ∧ (T3 (∃ y0' : Nat, (y0' ≤ List.length ws) ∧ (List.length ws - y0') < (List.length ws - y0) ∧ ((lxs [.c (.hs .no tyStr ws), .c (.int .i64 b), .tp [], .tp [], .c (.raw (.slice none 0 0)), .c (.row 0 0)] (TN 3 (lxs [.c (.hs .no tyStr ws), .c (.int .i64 ((List.length ws : Nat) : Int))] (leV (.c (.int .i64 (IntKind.wrap .i64 (((y0 : Nat) : Int) + 1)))) (.c (.int .i64 ((y0' : Nat) : Int))) ∧ TN 14 (lxs [.tp []] True))))) ∧ (leB (.row tyStr ((namesN ws b y0) ++ [(nth_String ws (Int.toNat ((y0 : Nat) : Int)))]) 0 0 none) (.row tyStr (namesN ws b y0') 0 0 none) ∧ True) ∧ true = true))))) else (T2 (∃ y0' : Nat, (y0' ≤ List.length ws) ∧ (List.length ws - y0') < (List.length ws - y0) ∧ ((lxs [.c (.hs .no tyStr ws), .c (.int .i64 b), .tp [], .tp [], .c (.raw (.slice none 0 0)), .c (.row 0 0)] (TN 3 (lxs [.c (.hs .no tyStr ws), .c (.int .i64 ((List.length ws : Nat) : Int))] (leV (.c (.int .i64 (IntKind.wrap .i64 (((y0 : Nat) : Int) + 1)))) (.c (.int .i64 ((y0' : Nat) : Int))) ∧ TN 14 (lxs [.tp []] True))))) ∧ (leB (.row tyStr (namesN ws b y0) 0 0 none) (.row tyStr (namesN ws b y0') 0 0 none) ∧ True) ∧ true = true))))))))) else (T2 (((namesN ws b y0) = (namesN ws b (List.length ws))) ∧ true = true))))))) (by kernel_rfl) ?_
  unfold T2 T3 T5 T6
  simp only [leB_rowU8, btw_iff, btw_not, flagsOk, Bool.not_true, Bool.not_false, SI2A, eq_self]
  refine ⟨⟨0, Nat.zero_le _, rfl, rfl⟩, fun y hy => ?_⟩
  have hl := names_len ws b y
  repeat' (with_reducible first | exact trivial | apply And.intro | intro _)
  all_goals first
    | (with_reducible trivial)
    | omega
    | (with_reducible assumption)
    | ((try simp only [List.length_append, List.length_cons, List.length_nil, byteL_len]); (first | unfold rowMax | unfold maxLen); omega)
    | exact ⟨y + 1, by omega, by omega, wrapN (by unfold maxLen; omega), (names_y (eqI_true.2 (by assumption))).symm⟩
    | exact ⟨y + 1, by omega, by omega, wrapN (by unfold maxLen; omega), (names_n (eqI_false.2 (by assumption))).symm⟩
    | (obtain rfl : y = List.length ws := by omega
       rfl)
def e_i_namesOf : Entry Try.prog := ⟨33, [.v (.list tyStr), .v tyInt], fun x => List.length x.1 ≤ 1048576, fun x => .c (.row 0 0), fun x => [.row tyStr (namesN x.1 x.2.1 (List.length x.1)) 0 0 none], fun x hx => b_i_namesOf x.1 x.2.1 hx, Try.call33⟩
theorem b_i_atom (s : ByteArray) : BCalls Try.prog 29 [.c (.str s)] (.ag [.int .i64 (atomK s).1, .str (atomK s).2]) [] := by
  refine bc0 [] [] [] [] L0 Try.func29 (fun hwf => ?_)
  refine Eq.mpr (β := (True ∧ (True ∧ (True ∧ (True ∧ ((((true = true ∧ leC (.int .i64 1) (.int .i64 (atomK s).1)) ∧ (true = true ∧ leC (.str s) (.str (atomK s).2)) ∧ True)) ∧ true = true)))))) (by kernel_rfl) ?_
  simp only [SIA, eq_self]
  repeat' (first | apply And.intro | intro _)
  all_goals (first | trivial | (rw [Bool.eq_iff_iff]; simp_all [Prod.ext_iff, EQA, atomK]; done) | (simp_all [Prod.ext_iff, EQA, atomK]; done) | omega)
def e_i_atom : Entry Try.prog := ⟨29, [.v tyStr], fun x => True, fun x => .ag [.int .i64 (atomK x.1).1, .str (atomK x.1).2], fun _ => [], fun x hx => b_i_atom x.1, Try.call29⟩
theorem b_i_scopeWords  : BCalls Try.prog 30 [] (.c (.row 0 0)) [.row tyStr scW 0 0 none] := by
  refine bc0 [] [] [] [] L0 Try.func30 (fun hwf => ?_)
  refine Eq.mpr (β := (True ∧ (True ∧ (True ∧ ((([(⟨#[]⟩ : ByteArray), (⟨#[115, 101, 108, 101, 99, 116, 101, 100]⟩ : ByteArray), (⟨#[112, 101, 114, 115, 111, 110, 97, 108]⟩ : ByteArray), (⟨#[115, 117, 98, 116, 114, 101, 101]⟩ : ByteArray), (⟨#[98, 111, 120, 101, 115]⟩ : ByteArray)]) = scW) ∧ true = true))))) (by kernel_rfl) ?_
  simp only [btw_iff, btw_not, flagsOk, Bool.not_true, Bool.not_false, SI2A, eq_self]
  repeat' (with_reducible first | exact trivial | apply And.intro | intro _)
  all_goals rfl
def e_i_scopeWords : Entry Try.prog := ⟨30, [], fun x => True, fun x => .c (.row 0 0), fun x => [.row tyStr scW 0 0 none], fun x hx => b_i_scopeWords , Try.call30⟩
theorem b_i_eventWords  : BCalls Try.prog 34 [] (.c (.row 0 0)) [.row tyStr evW 0 0 none] := by
  refine bc0 [] [] [] [] L0 Try.func34 (fun hwf => ?_)
  refine Eq.mpr (β := (True ∧ (True ∧ (True ∧ ((([(⟨#[110, 101, 119]⟩ : ByteArray), (⟨#[103, 111, 110, 101]⟩ : ByteArray), (⟨#[102, 108, 97, 103, 115]⟩ : ByteArray), (⟨#[110, 97, 109, 101, 115]⟩ : ByteArray)]) = evW) ∧ true = true))))) (by kernel_rfl) ?_
  simp only [btw_iff, btw_not, flagsOk, Bool.not_true, Bool.not_false, SI2A, eq_self]
  repeat' (with_reducible first | exact trivial | apply And.intro | intro _)
  all_goals rfl
def e_i_eventWords : Entry Try.prog := ⟨34, [], fun x => True, fun x => .c (.row 0 0), fun x => [.row tyStr evW 0 0 none], fun x hx => b_i_eventWords , Try.call34⟩
def grK (ws : List ByteArray) : List GToken := [openK] ++ atomsN ws ws.length ++ [closeK]
theorem grK_len (ws : List ByteArray) : (grK ws).length = ws.length + 2 := by
  unfold grK
  simp only [List.length_append, List.length_cons, List.length_nil, atoms_len]
  omega
theorem namesN_len (ws : List ByteArray) (b : Int) : ∀ k, (namesN ws b k).length ≤ k
  | 0 => Nat.le_refl _
  | k + 1 => by
    have := namesN_len ws b k
    unfold namesN
    split
    · rw [List.length_append, List.length_singleton]; omega
    · omega
theorem atoms_snoc (ws : List ByteArray) (x : ByteArray) : ∀ k, k ≤ ws.length → atomsN (ws ++ [x]) k = atomsN ws k
  | 0, _ => rfl
  | k + 1, h => by
    unfold atomsN
    rw [atoms_snoc ws x k (by omega)]
    congr 2
    have e : nth_String (ws ++ [x]) k = nth_String ws k := by
      show List.getD (ws ++ [x]) k (⟨#[]⟩ : ByteArray) = List.getD ws k (⟨#[]⟩ : ByteArray)
      rw [List.getD_eq_getElem?_getD, List.getD_eq_getElem?_getD, List.getElem?_append_left h]
    rw [e]
theorem nth_last (ws : List ByteArray) (x : ByteArray) : nth_String (ws ++ [x]) ws.length = x := by
  show List.getD (ws ++ [x]) ws.length (⟨#[]⟩ : ByteArray) = x
  rw [List.getD_eq_getElem?_getD, List.getElem?_append_right (Nat.le_refl _), Nat.sub_self]
  rfl
theorem ev_names (b : Int) : ∀ k, atomsN (namesN evW b k) (namesN evW b k).length = evN b k
  | 0 => rfl
  | k + 1 => by
    have ih := ev_names b k
    unfold namesN evN
    split
    · rename_i h
      rw [List.length_append, List.length_singleton]
      show atomsN (namesN evW b k ++ [nth_String evW k]) (namesN evW b k).length ++ [atomK (nth_String (namesN evW b k ++ [nth_String evW k]) (namesN evW b k).length)] = _
      rw [atoms_snoc _ _ _ (Nat.le_refl _), nth_last, ih]
    · exact ih
theorem grK_ev (b : Int) : grK (namesN evW b 4) = [openK] ++ evN b 4 ++ [closeK] := by
  unfold grK
  rw [ev_names]
def L_i_group (ws : List ByteArray) : Nat → List AV → Mem → LoopA
  | 3, tm, M => ⟨Nat, fun y => (anyR (setA tm [(3, .c (.row 0 0)), (5, .any), (7, .any), (10, .c (.int .i64 ((y : Nat) : Int)))]) 11 9, setM M [(0, .row tyToken ([openK] ++ atomsN ws y) 0 0 none)]), fun y => (y ≤ List.length ws), fun y => (List.length ws - y)⟩
  | _, _, _ => ⟨Unit, fun _ => ([], []), fun _ => False, fun _ => 0⟩
theorem b_i_group (ws : List ByteArray) (hpre : List.length ws ≤ 1048576) : BCalls Try.prog 32 [.c (.hs .no tyStr ws)] (.c (.row 0 0)) [.row tyToken (grK ws) 0 0 none] := by
  refine bc0 [e_i_atom] [] [] [] (L_i_group ws) Try.func32 (fun hwf => ?_)
  refine Eq.mpr (β := (T7 ((∃ q : Nat, (q ≤ List.length ws) ∧ ((lxs [.c (.hs .no tyStr ws), .tp [], .c (.raw (.slice none 0 0)), .c (.row 0 0), .tp []] (True ∧ lxs [.ag [.int .i64 3, .str (⟨#[]⟩ : ByteArray)]] (True ∧ lxs [.c (.hs .no tyStr ws), .c (.int .i64 ((List.length ws : Nat) : Int))] (leV (.c (.int .i64 0)) (.c (.int .i64 ((q : Nat) : Int))) ∧ TN 9 (lxs [.tp [], .tp [], .tp [], .tp []] True))))) ∧ (leB (.row tyToken ([(3, (⟨#[]⟩ : ByteArray))] : List GToken) 0 0 none) (.row tyToken ([openK] ++ atomsN ws q) 0 0 none) ∧ True) ∧ true = true)) ∧ ∀ y0 : Nat, (y0 ≤ List.length ws) → (True ∧ (bif (ltI ((y0 : Nat) : Int) ((List.length ws : Nat) : Int)) then (((1 : Nat) = 1 ∧ (0 : Int) ≤ ((y0 : Nat) : Int) ∧ (((y0 : Nat) : Int) : Int) < ((List.length ws : Nat) : Int)) ∧ (T4 ((True ∧ true = true) ∧ (True ∧ ((True ∧ List.length ([openK] ++ atomsN ws y0) + List.length ([(atomK (nth_String ws (Int.toNat ((y0 : Nat) : Int))))]) ≤ rowMax) ∧ (T3 (∃ y0' : Nat, (y0' ≤ List.length ws) ∧ (List.length ws - y0') < (List.length ws - y0) ∧ ((lxs [.c (.hs .no tyStr ws), .tp [], .c (.raw (.slice none 0 0)), .c (.row 0 0), .tp []] (True ∧ lxs [.ag [.int .i64 3, .str (⟨#[]⟩ : ByteArray)]] (True ∧ lxs [.c (.hs .no tyStr ws), .c (.int .i64 ((List.length ws : Nat) : Int))] (leV (.c (.int .i64 (IntKind.wrap .i64 (((y0 : Nat) : Int) + 1)))) (.c (.int .i64 ((y0' : Nat) : Int))) ∧ TN 9 (lxs [.tp [], .tp [], .tp [], .tp []] True))))) ∧ (leB (.row tyToken (([openK] ++ atomsN ws y0) ++ [(atomK (nth_String ws (Int.toNat ((y0 : Nat) : Int))))]) 0 0 none) (.row tyToken ([openK] ++ atomsN ws y0') 0 0 none) ∧ True) ∧ true = true)))))))) else (T3 ((True ∧ List.length ([openK] ++ atomsN ws y0) + List.length ([(4, (⟨#[]⟩ : ByteArray))] : List GToken) ≤ rowMax) ∧ (True ∧ (((([openK] ++ atomsN ws y0) ++ ([(4, (⟨#[]⟩ : ByteArray))] : List GToken)) = (grK ws)) ∧ true = true))))))))) (by kernel_rfl) ?_
  unfold T3 T4 T7
  have hl := atoms_len ws
  have hp : List.length ws ≤ 1048576 := hpre
  simp only [leB_rowU8, btw_iff, btw_not, flagsOk, Bool.not_true, Bool.not_false, SI2A, eq_self]
  repeat' (with_reducible first | exact trivial | apply And.intro | intro _)
  all_goals first
    | (with_reducible trivial)
    | omega
    | (with_reducible assumption)
    | ((try simp only [List.length_append, List.length_cons, List.length_nil, byteL_len]); (first | unfold rowMax | unfold maxLen); omega)
    | exact ⟨0, Nat.zero_le _, rfl, rfl⟩
    | (rename_i y hy _; simp only [List.length_append, List.length_cons, List.length_nil, hl]; unfold rowMax; omega)
    | (rename_i y hy _; exact ⟨y + 1, by omega, by omega, wrapN (by unfold maxLen; omega), (List.append_assoc _ _ _).trans rfl⟩)
    | (rename_i y hy hge; obtain rfl : y = List.length ws := by omega
       rfl)
def e_i_group : Entry Try.prog := ⟨32, [.v (.list tyStr)], fun x => List.length x.1 ≤ 1048576, fun x => .c (.row 0 0), fun x => [.row tyToken (grK x.1) 0 0 none], fun x hx => b_i_group x.1 hx, Try.call32⟩
theorem fil_no {f : GFilter} (h : filterOk f = false) : filTok f = [] := if_pos h
section
variable {f : GFilter} {y : Nat} {a b c : GToken} {e : Int}
theorem ft_0 : (namesN evW e evW.length).length ≤ 1048576 := Nat.le_trans (namesN_len _ _ _) (by decide)
theorem ft_z (ho : filterOk f = true) (hf : f.1 = true) (hlt : ((y : Nat) : Int) < ((f.2.length : Nat) : Int)) : scopeOk (nth_Scope f.2 y) = true ∧ (scsN f.2 y).length ≤ 29 := by
  have h1 := filter_at ho hf
  have h2 := scs_len ho hf y (by omega)
  exact ⟨h1.2 y (by omega), by omega⟩
theorem ft_n {z : GScope} (h : scopeOk z = true) (hn : (eqI z.1 3 || eqI z.1 4) = true) : z.2.1.length ≤ 3 ∧ 3 ≤ z.1 := by
  rw [Bool.or_eq_true, eqI_true, eqI_true] at hn
  exact ⟨(scope_facts h).2 (by omega), by omega⟩
theorem ft_m {z : GScope} (h : scopeOk z = true) (hn : (eqI z.1 3 || eqI z.1 4) = false) : ¬ 3 ≤ z.1 := by
  rw [Bool.or_eq_false_iff, eqI_false, eqI_false] at hn
  have := (scope_facts h).1
  omega
theorem ft_a (ho : filterOk f = true) (hf : f.1 = true) (hlt : ((y : Nat) : Int) < ((f.2.length : Nat) : Int)) : (scsN f.2 y ++ [a, b]).length + (grK (namesN evW e evW.length)).length ≤ rowMax := by
  have h1 := (ft_z ho hf hlt).2
  have h2 := namesN_len evW e evW.length
  have h3 : evW.length = 4 := rfl
  simp only [List.length_append, List.length_cons, List.length_nil, grK_len]
  unfold rowMax
  omega
theorem ft_b (ho : filterOk f = true) (hf : f.1 = true) (hlt : ((y : Nat) : Int) < ((f.2.length : Nat) : Int)) : (scsN f.2 y ++ [a, b] ++ grK (namesN evW e evW.length)).length + [c].length ≤ rowMax := by
  have h1 := (ft_z ho hf hlt).2
  have h2 := namesN_len evW e evW.length
  have h3 : evW.length = 4 := rfl
  simp only [List.length_append, List.length_cons, List.length_nil, grK_len]
  unfold rowMax
  omega
theorem ft_c (ho : filterOk f = true) (hf : f.1 = true) (hlt : ((y : Nat) : Int) < ((f.2.length : Nat) : Int)) (hn : (eqI (nth_Scope f.2 y).1 3 || eqI (nth_Scope f.2 y).1 4) = true) : (scsN f.2 y ++ [a, b]).length + (grK (nth_Scope f.2 y).2.1).length ≤ rowMax := by
  have h1 := ft_z ho hf hlt
  have h4 := (ft_n h1.1 hn).1
  simp only [List.length_append, List.length_cons, List.length_nil, grK_len]
  unfold rowMax
  omega
theorem ft_d (ho : filterOk f = true) (hf : f.1 = true) (hlt : ((y : Nat) : Int) < ((f.2.length : Nat) : Int)) (hn : (eqI (nth_Scope f.2 y).1 3 || eqI (nth_Scope f.2 y).1 4) = true) : (scsN f.2 y ++ [a, b] ++ grK (nth_Scope f.2 y).2.1).length + (grK (namesN evW e evW.length)).length ≤ rowMax := by
  have h1 := ft_z ho hf hlt
  have h4 := (ft_n h1.1 hn).1
  have h2 := namesN_len evW e evW.length
  have h3 : evW.length = 4 := rfl
  simp only [List.length_append, List.length_cons, List.length_nil, grK_len]
  unfold rowMax
  omega
theorem ft_e (ho : filterOk f = true) (hf : f.1 = true) (hlt : ((y : Nat) : Int) < ((f.2.length : Nat) : Int)) (hn : (eqI (nth_Scope f.2 y).1 3 || eqI (nth_Scope f.2 y).1 4) = true) : (scsN f.2 y ++ [a, b] ++ grK (nth_Scope f.2 y).2.1 ++ grK (namesN evW e evW.length)).length + [c].length ≤ rowMax := by
  have h1 := ft_z ho hf hlt
  have h4 := (ft_n h1.1 hn).1
  have h2 := namesN_len evW e evW.length
  have h3 : evW.length = 4 := rfl
  simp only [List.length_append, List.length_cons, List.length_nil, grK_len]
  unfold rowMax
  omega
theorem ft_f (ho : filterOk f = true) (hf : f.1 = true) (hlt : ((y : Nat) : Int) < ((f.2.length : Nat) : Int)) : (scsN f.2 y).length + [a, b].length ≤ rowMax := by
  have h1 := (ft_z ho hf hlt).2
  simp only [List.length_cons, List.length_nil]
  unfold rowMax
  omega
theorem ft_g (ho : filterOk f = true) (hf : f.1 = true) (hlt : ((y : Nat) : Int) < ((f.2.length : Nat) : Int)) : 0 ≤ (nth_Scope f.2 y).1 := by
  have := (scope_facts (ft_z ho hf hlt).1).1
  omega
theorem ft_h (ho : filterOk f = true) (hf : f.1 = true) (hlt : ((y : Nat) : Int) < ((f.2.length : Nat) : Int)) : (nth_Scope f.2 y).1 < ((scW.length : Nat) : Int) := by
  have := (scope_facts (ft_z ho hf hlt).1).1
  have h3 : scW.length = 5 := rfl
  omega
theorem ft_i (ho : filterOk f = true) (hf : f.1 = true) (hlt : ((y : Nat) : Int) < ((f.2.length : Nat) : Int)) (hn : (eqI (nth_Scope f.2 y).1 3 || eqI (nth_Scope f.2 y).1 4) = true) : (nth_Scope f.2 y).2.1.length ≤ 1048576 := by
  have := (ft_n (ft_z ho hf hlt).1 hn).1
  omega
theorem sc_y {z : GScope} (h : 3 ≤ z.1) : scTok z = [openK, atomK (nth_String scW (Int.toNat z.1))] ++ grK z.2.1 ++ grK (namesN evW z.2.2 4) ++ [closeK] := by
  have e : nmTok z = grK z.2.1 := if_pos h
  unfold scTok
  rw [e, grK_ev]
  simp only [List.append_assoc, List.cons_append, List.nil_append]
theorem sc_n {z : GScope} (h : ¬ 3 ≤ z.1) : scTok z = [openK, atomK (nth_String scW (Int.toNat z.1))] ++ grK (namesN evW z.2.2 4) ++ [closeK] := by
  have e : nmTok z = [] := if_neg h
  unfold scTok
  rw [e, grK_ev]
  simp only [List.append_assoc, List.cons_append, List.nil_append]
theorem ft_y (ho : filterOk f = true) (hf : f.1 = true) (hlt : ((y : Nat) : Int) < ((f.2.length : Nat) : Int)) (hn : (eqI (nth_Scope f.2 y).1 3 || eqI (nth_Scope f.2 y).1 4) = true) : ∃ y' : Nat, y' ≤ f.2.length ∧ f.2.length - y' < f.2.length - y ∧ IntKind.wrap .i64 (((y : Nat) : Int) + 1) = ((y' : Nat) : Int) ∧
    scsN f.2 y ++ [openK, atomK (nth_String scW (Int.toNat (nth_Scope f.2 y).1))] ++ grK (nth_Scope f.2 y).2.1 ++ grK (namesN evW (nth_Scope f.2 y).2.2 evW.length) ++ [closeK] = scsN f.2 y' := by
  have h1 := filter_at ho hf
  have h2 := ft_z ho hf hlt
  refine ⟨y + 1, by omega, by omega, wrapN (by unfold maxLen; omega), ?_⟩
  show _ = scsN f.2 y ++ scTok (nth_Scope f.2 y)
  rw [sc_y (ft_n h2.1 hn).2]
  simp only [List.append_assoc]
  rfl
theorem ft_x (ho : filterOk f = true) (hf : f.1 = true) (hlt : ((y : Nat) : Int) < ((f.2.length : Nat) : Int)) (hn : (eqI (nth_Scope f.2 y).1 3 || eqI (nth_Scope f.2 y).1 4) = false) : ∃ y' : Nat, y' ≤ f.2.length ∧ f.2.length - y' < f.2.length - y ∧ IntKind.wrap .i64 (((y : Nat) : Int) + 1) = ((y' : Nat) : Int) ∧
    scsN f.2 y ++ [openK, atomK (nth_String scW (Int.toNat (nth_Scope f.2 y).1))] ++ grK (namesN evW (nth_Scope f.2 y).2.2 evW.length) ++ [closeK] = scsN f.2 y' := by
  have h1 := filter_at ho hf
  have h2 := ft_z ho hf hlt
  refine ⟨y + 1, by omega, by omega, wrapN (by unfold maxLen; omega), ?_⟩
  show _ = scsN f.2 y ++ scTok (nth_Scope f.2 y)
  rw [sc_n (ft_m h2.1 hn)]
  simp only [List.append_assoc]
  rfl
end
def L_i_FilterTokens (f : GFilter) : Nat → List AV → Mem → LoopA
  | 7, tm, M => ⟨Nat, fun y => (anyR (setA tm [(3, .c (.row 1 0)), (5, .any), (17, .any), (21, .c (.int .i64 ((y : Nat) : Int)))]) 22 33, setM M [(1, .row tyToken (scsN f.2 y) 0 0 none)]), fun y => (y ≤ List.length f.2), fun y => (List.length f.2 - y)⟩
  | _, _, _ => ⟨Unit, fun _ => ([], []), fun _ => False, fun _ => 0⟩
def k0je1ho (f : GFilter) (y0 : Nat) (y0' : Nat) : Prop := (True ∧ lxs [.c (.bool false), .ag [.bool f.1, .hs .no tyScope f.2], .c (.bool (filterOk f)), .c (.bool (!(filterOk f))), .c (.bool false), .c (.bp 0 0), .c (.bool f.1), .c (.bool (!f.1)), .tp [], .tp [], .ag [.int .i64 (atomK (⟨#[115, 101, 116]⟩ : ByteArray)).1, .str (atomK (⟨#[115, 101, 116]⟩ : ByteArray)).2]] (True ∧ lxs [.c (.bp 0 1), .c (.hs .no tyScope f.2), .c (.int .i64 ((List.length f.2 : Nat) : Int))] (leV (.c (.int .i64 (IntKind.wrap .i64 (((y0 : Nat) : Int) + 1)))) (.c (.int .i64 ((y0' : Nat) : Int))) ∧ TN 33 (lxs [.tp []] True))))
theorem b_i_FilterTokens (f : GFilter) : BCalls Try.prog 11 [.ag [.bool f.1, .hs .no tyScope f.2]] (.c (.row 0 0)) [.row tyToken (filTok f) 0 0 none] := by
  refine bc0 [e_i_FilterOk, e_i_atom, e_i_scopeWords, e_i_hasNames, e_i_group, e_i_eventWords, e_i_namesOf] [] [] [] (L_i_FilterTokens f) Try.func11 (fun hwf => ?_)
  refine Eq.mpr (β := (T3 ((True ∧ true = true) ∧ (T2 (bif (!(filterOk f)) then (True ∧ (((filTok f) = []) ∧ true = true)) else (T4 (bif (!f.1) then ((True ∧ true = true) ∧ (T2 ((([(atomK (⟨#[110, 111, 110, 101]⟩ : ByteArray))]) = (filTok f)) ∧ true = true))) else ((True ∧ true = true) ∧ (T6 ((∃ q : Nat, (q ≤ List.length f.2) ∧ ((lxs [.ag [.bool f.1, .hs .no tyScope f.2], .c (.bp 0 0), .c (.raw (.slice none 0 0)), .c (.row 1 0), .tp []] (True ∧ lxs [.c (.bool false), .ag [.bool f.1, .hs .no tyScope f.2], .c (.bool (filterOk f)), .c (.bool (!(filterOk f))), .c (.bool false), .c (.bp 0 0), .c (.bool f.1), .c (.bool (!f.1)), .tp [], .tp [], .ag [.int .i64 (atomK (⟨#[115, 101, 116]⟩ : ByteArray)).1, .str (atomK (⟨#[115, 101, 116]⟩ : ByteArray)).2]] (True ∧ lxs [.c (.bp 0 1), .c (.hs .no tyScope f.2), .c (.int .i64 ((List.length f.2 : Nat) : Int))] (leV (.c (.int .i64 0)) (.c (.int .i64 ((q : Nat) : Int))) ∧ TN 33 (lxs [.tp []] True))))) ∧ (lb (.box [.bool f.1, .hs .no tyScope f.2]) ∧ leB (.row tyToken ([(atomK (⟨#[115, 101, 116]⟩ : ByteArray))]) 0 0 none) (.row tyToken (scsN f.2 q) 0 0 none) ∧ True) ∧ true = true)) ∧ ∀ y0 : Nat, (y0 ≤ List.length f.2) → (True ∧ (bif (ltI ((y0 : Nat) : Int) ((List.length f.2 : Nat) : Int)) then (((3 : Nat) = 3 ∧ (0 : Int) ≤ ((y0 : Nat) : Int) ∧ (((y0 : Nat) : Int) : Int) < ((List.length f.2 : Nat) : Int)) ∧ (T3 ((true = true ∧ true = true) ∧ (T4 ((True ∧ true = true) ∧ (((1 : Nat) = 1 ∧ (0 : Int) ≤ (nth_Scope f.2 (Int.toNat ((y0 : Nat) : Int))).1 ∧ ((nth_Scope f.2 (Int.toNat ((y0 : Nat) : Int))).1 : Int) < ((List.length scW : Nat) : Int)) ∧ (True ∧ ((True ∧ true = true) ∧ (True ∧ ((True ∧ List.length (scsN f.2 y0) + List.length ([(3, (⟨#[]⟩ : ByteArray)), (atomK (nth_String scW (Int.toNat (nth_Scope f.2 (Int.toNat ((y0 : Nat) : Int))).1)))] : List GToken) ≤ rowMax) ∧ (T3 ((True ∧ true = true) ∧ (bif (eqI (nth_Scope f.2 (Int.toNat ((y0 : Nat) : Int))).1 3 || eqI (nth_Scope f.2 (Int.toNat ((y0 : Nat) : Int))).1 4) then (T3 ((List.length (nth_Scope f.2 (Int.toNat ((y0 : Nat) : Int))).2.1 ≤ 1048576 ∧ true = true) ∧ ((True ∧ List.length ((scsN f.2 y0) ++ ([(3, (⟨#[]⟩ : ByteArray)), (atomK (nth_String scW (Int.toNat (nth_Scope f.2 (Int.toNat ((y0 : Nat) : Int))).1)))] : List GToken)) + List.length (grK (nth_Scope f.2 (Int.toNat ((y0 : Nat) : Int))).2.1) ≤ rowMax) ∧ (True ∧ ((true = true ∧ true = true) ∧ (T3 ((True ∧ true = true) ∧ ((List.length evW ≤ 1048576 ∧ true = true ∧ true = true) ∧ ((List.length (namesN evW (nth_Scope f.2 (Int.toNat ((y0 : Nat) : Int))).2.2 (List.length evW)) ≤ 1048576 ∧ true = true ∧ true = true) ∧ ((True ∧ List.length (((scsN f.2 y0) ++ ([(3, (⟨#[]⟩ : ByteArray)), (atomK (nth_String scW (Int.toNat (nth_Scope f.2 (Int.toNat ((y0 : Nat) : Int))).1)))] : List GToken)) ++ (grK (nth_Scope f.2 (Int.toNat ((y0 : Nat) : Int))).2.1)) + List.length (grK (namesN evW (nth_Scope f.2 (Int.toNat ((y0 : Nat) : Int))).2.2 (List.length evW))) ≤ rowMax) ∧ (T4 ((True ∧ List.length ((((scsN f.2 y0) ++ ([(3, (⟨#[]⟩ : ByteArray)), (atomK (nth_String scW (Int.toNat (nth_Scope f.2 (Int.toNat ((y0 : Nat) : Int))).1)))] : List GToken)) ++ (grK (nth_Scope f.2 (Int.toNat ((y0 : Nat) : Int))).2.1)) ++ (grK (namesN evW (nth_Scope f.2 (Int.toNat ((y0 : Nat) : Int))).2.2 (List.length evW)))) + List.length ([(4, (⟨#[]⟩ : ByteArray))] : List GToken) ≤ rowMax) ∧ (T3 (∃ y0' : Nat, (y0' ≤ List.length f.2) ∧ (List.length f.2 - y0') < (List.length f.2 - y0) ∧ ((lxs [.ag [.bool f.1, .hs .no tyScope f.2], .c (.bp 0 0), .c (.raw (.slice none 0 0)), .c (.row 1 0), .tp []] (k0je1ho f y0 y0')) ∧ (lb (.box [.bool f.1, .hs .no tyScope f.2]) ∧ leB (.row tyToken (((((scsN f.2 y0) ++ ([(3, (⟨#[]⟩ : ByteArray)), (atomK (nth_String scW (Int.toNat (nth_Scope f.2 (Int.toNat ((y0 : Nat) : Int))).1)))] : List GToken)) ++ (grK (nth_Scope f.2 (Int.toNat ((y0 : Nat) : Int))).2.1)) ++ (grK (namesN evW (nth_Scope f.2 (Int.toNat ((y0 : Nat) : Int))).2.2 (List.length evW)))) ++ ([(4, (⟨#[]⟩ : ByteArray))] : List GToken)) 0 0 none) (.row tyToken (scsN f.2 y0') 0 0 none) ∧ True) ∧ true = true))))))))))))))) else ((true = true ∧ true = true) ∧ (T3 ((True ∧ true = true) ∧ ((List.length evW ≤ 1048576 ∧ true = true ∧ true = true) ∧ ((List.length (namesN evW (nth_Scope f.2 (Int.toNat ((y0 : Nat) : Int))).2.2 (List.length evW)) ≤ 1048576 ∧ true = true ∧ true = true) ∧ ((True ∧ List.length ((scsN f.2 y0) ++ ([(3, (⟨#[]⟩ : ByteArray)), (atomK (nth_String scW (Int.toNat (nth_Scope f.2 (Int.toNat ((y0 : Nat) : Int))).1)))] : List GToken)) + List.length (grK (namesN evW (nth_Scope f.2 (Int.toNat ((y0 : Nat) : Int))).2.2 (List.length evW))) ≤ rowMax) ∧ (T4 ((True ∧ List.length (((scsN f.2 y0) ++ ([(3, (⟨#[]⟩ : ByteArray)), (atomK (nth_String scW (Int.toNat (nth_Scope f.2 (Int.toNat ((y0 : Nat) : Int))).1)))] : List GToken)) ++ (grK (namesN evW (nth_Scope f.2 (Int.toNat ((y0 : Nat) : Int))).2.2 (List.length evW)))) + List.length ([(4, (⟨#[]⟩ : ByteArray))] : List GToken) ≤ rowMax) ∧ (T3 (∃ y0' : Nat, (y0' ≤ List.length f.2) ∧ (List.length f.2 - y0') < (List.length f.2 - y0) ∧ ((lxs [.ag [.bool f.1, .hs .no tyScope f.2], .c (.bp 0 0), .c (.raw (.slice none 0 0)), .c (.row 1 0), .tp []] (k0je1ho f y0 y0')) ∧ (lb (.box [.bool f.1, .hs .no tyScope f.2]) ∧ leB (.row tyToken ((((scsN f.2 y0) ++ ([(3, (⟨#[]⟩ : ByteArray)), (atomK (nth_String scW (Int.toNat (nth_Scope f.2 (Int.toNat ((y0 : Nat) : Int))).1)))] : List GToken)) ++ (grK (namesN evW (nth_Scope f.2 (Int.toNat ((y0 : Nat) : Int))).2.2 (List.length evW)))) ++ ([(4, (⟨#[]⟩ : ByteArray))] : List GToken)) 0 0 none) (.row tyToken (scsN f.2 y0') 0 0 none) ∧ True) ∧ true = true)))))))))))))))))))))))) else (T2 (((scsN f.2 y0) = (filTok f)) ∧ true = true)))))))))))))) (by kernel_rfl) ?_
  unfold k0je1ho T2 T3 T4 T6
  simp only [SI2A, eq_self]
  repeat' (with_reducible first | exact trivial | apply And.intro | intro _)
  all_goals first
    | (with_reducible trivial)
    | omega
    | (with_reducible assumption)
    | (with_reducible exact ft_0)
    | (with_reducible exact ft_a (by with_reducible assumption) (by with_reducible assumption) (by with_reducible assumption))
    | (with_reducible exact ft_b (by with_reducible assumption) (by with_reducible assumption) (by with_reducible assumption))
    | (with_reducible exact ft_c (by with_reducible assumption) (by with_reducible assumption) (by with_reducible assumption) (by with_reducible assumption))
    | (with_reducible exact ft_d (by with_reducible assumption) (by with_reducible assumption) (by with_reducible assumption) (by with_reducible assumption))
    | (with_reducible exact ft_e (by with_reducible assumption) (by with_reducible assumption) (by with_reducible assumption) (by with_reducible assumption))
    | (with_reducible exact ft_f (by with_reducible assumption) (by with_reducible assumption) (by with_reducible assumption))
    | (with_reducible exact ft_g (by with_reducible assumption) (by with_reducible assumption) (by with_reducible assumption))
    | (with_reducible exact ft_h (by with_reducible assumption) (by with_reducible assumption) (by with_reducible assumption))
    | (with_reducible exact ft_i (by with_reducible assumption) (by with_reducible assumption) (by with_reducible assumption) (by with_reducible assumption))
    | exact fil_no (by with_reducible assumption)
    | exact fil_off (by with_reducible assumption) (by with_reducible assumption)
    | exact fil_on (by with_reducible assumption) (by with_reducible assumption) (by with_reducible assumption) (by with_reducible assumption)
    | exact ⟨0, Nat.zero_le _, rfl, Eq.mpr leB_refl trivial⟩
    | exact ft_y (by with_reducible assumption) (by with_reducible assumption) (by with_reducible assumption) (by with_reducible assumption)
    | exact ft_x (by with_reducible assumption) (by with_reducible assumption) (by with_reducible assumption) (by with_reducible assumption)
def e_i_FilterTokens : Entry Try.prog := ⟨11, [.s tyFilter], fun x => True, fun x => .c (.row 0 0), fun x => [.row tyToken (filTok x.1) 0 0 none], fun x hx => b_i_FilterTokens x.1, Try.call11⟩
end Go.Proofs.Ytoigkpkafgjeaaa
