/-
  Flags and their texts.
  No condition but what the arguments' cells hold. Printed by vcgen.py.
-/
import Derived.Test.YtoigkpkafgjeaaaGreatDoorOBlSetT
set_option linter.unusedSimpArgs false
set_option linter.unusedVariables false
set_option maxRecDepth 100000
set_option maxHeartbeats 4000000
namespace Go.Proofs.YtoigkpkafgjeaaaGreatDoor
open Go.ChangeShapes Go.WideShapes Go.ChangeAt Go.RowKit Go.Joins Go.Deep
open GoRep (rep bulk)

def bitB (b : Int) (k : Nat) : Bool := eqI (IntKind.wrap .i64 (((BitVec.ofInt (IntKind.bits .i64) (shrI .i64 b ((k : Nat) : Int)) &&& BitVec.ofInt (IntKind.bits .i64) 1).toNat : Nat))) 1
def namesN (ws : List ByteArray) (b : Int) : Nat → List ByteArray
  | 0 => []
  | k + 1 => if bitB b k = true then namesN ws b k ++ [nth_String ws k] else namesN ws b k
theorem names_y {ws : List ByteArray} {b : Int} {k : Nat} (h : bitB b k = true) : namesN ws b (k + 1) = namesN ws b k ++ [nth_String ws k] := if_pos h
theorem names_n {ws : List ByteArray} {b : Int} {k : Nat} (h : bitB b k = false) : namesN ws b (k + 1) = namesN ws b k := if_neg (by rw [h]; decide)
theorem names_len (ws : List ByteArray) (b : Int) : ∀ k, (namesN ws b k).length ≤ k
  | 0 => Nat.le_refl _
  | k + 1 => by
    have := names_len ws b k
    unfold namesN
    split
    · rw [List.length_append, List.length_singleton]; omega
    · omega
theorem names_mem {ws : List ByteArray} {b : Int} : ∀ {k : Nat} {x : ByteArray}, x ∈ namesN ws b k → ∃ j, j < k ∧ x = nth_String ws j
  | 0, x, h => by cases h
  | k + 1, x, h => by
    unfold namesN at h
    split at h
    · rw [List.mem_append] at h
      rcases h with h | h
      · obtain ⟨j, h1, h2⟩ := names_mem h
        exact ⟨j, by omega, h2⟩
      · exact ⟨k, by omega, by simpa using h⟩
    · obtain ⟨j, h1, h2⟩ := names_mem h
      exact ⟨j, by omega, h2⟩
theorem joPre_mem {l : List ByteArray} {b : ByteArray} (h1 : l.length ≤ 1048576) (h2 : b.size ≤ 100) (h : ∀ x ∈ l, x.size ≤ 100) : joPre l b :=
  ⟨h1, h2, fun k hk => h _ (List.mem_of_getElem? (nthS_get hk))⟩
def flagW : List ByteArray := [(⟨#[115, 101, 101, 110]⟩ : ByteArray), (⟨#[97, 110, 115, 119, 101, 114, 101, 100]⟩ : ByteArray), (⟨#[102, 108, 97, 103, 103, 101, 100]⟩ : ByteArray), (⟨#[100, 101, 108, 101, 116, 101, 100]⟩ : ByteArray), (⟨#[100, 114, 97, 102, 116]⟩ : ByteArray)]
theorem flagW_size : ∀ j, (nth_String flagW j).size ≤ 8
  | 0 => by decide
  | 1 => by decide
  | 2 => by decide
  | 3 => by decide
  | 4 => by decide
  | j + 5 => by
    have e : nth_String flagW (j + 5) = (⟨#[]⟩ : ByteArray) := rfl
    rw [e]
    exact Nat.zero_le _
def flagT (b : Int) : ByteArray := joS (if flagsOk b = true then namesN flagW b 5 else []) (⟨#[32]⟩ : ByteArray)
theorem flagPre (b : Int) : joPre (if flagsOk b = true then namesN flagW b 5 else []) (⟨#[32]⟩ : ByteArray) := by
  split
  · refine joPre_mem (Nat.le_trans (names_len _ _ _) (by decide)) (by decide) fun x hx => ?_
    obtain ⟨j, _, rfl⟩ := names_mem hx
    exact Nat.le_trans (flagW_size j) (by decide)
  · exact joPre_mem (by decide) (by decide) (fun x hx => by cases hx)
theorem flagT_size (b : Int) : (flagT b).size ≤ 1000 := by
  have h := joS_size (flagPre b)
  have h2 : (if flagsOk b = true then namesN flagW b 5 else []).length ≤ 5 := by
    split
    · exact names_len _ _ _
    · exact Nat.zero_le _
  unfold flagT
  omega
theorem wu64 {k : Nat} (h : k ≤ 1048576) : IntKind.wrap .u64 ((k : Nat) : Int) = ((k : Nat) : Int) := by
  have e : IntKind.wrap .u64 ((k : Nat) : Int) = ((k : Nat) : Int) % 2 ^ 64 := rfl
  rw [e]
  omega
theorem namesPre {b : Int} {k : Nat} (hk : k ≤ 5) : joPre (namesN flagW b k) (⟨#[32]⟩ : ByteArray) := by
  refine joPre_mem (Nat.le_trans (names_len _ _ _) (by omega)) (by decide) fun x hx => ?_
  obtain ⟨j, _, rfl⟩ := names_mem hx
  exact Nat.le_trans (flagW_size j) (by decide)
theorem flag_no {b : Int} {k : Nat} (h : k = 0 ∨ flagsOk b = true) (h2 : flagsOk b = false) : joS (namesN flagW b k) (⟨#[32]⟩ : ByteArray) = flagT b := by
  rcases h with rfl | h
  · unfold flagT
    rw [if_neg (by rw [h2]; decide)]
    rfl
  · rw [h] at h2; cases h2
theorem flag_yes {b : Int} {k : Nat} (hk : k ≤ 5) (hk2 : ¬ ((k : Nat) : Int) < 5) (h : k = 0 ∨ flagsOk b = true) : joS (namesN flagW b k) (⟨#[32]⟩ : ByteArray) = flagT b := by
  obtain rfl : k = 5 := by omega
  rcases h with h | h
  · cases h
  · unfold flagT
    rw [if_pos h]
theorem b_s_l5Words  : BCalls Tryz.prog 65 [] (.c (.row 0 0)) [.row tyStr flagW 0 0 none] := by
  refine bc0 [] [] [] [] L0 Tryz.func65 (fun hwf => ?_)
  refine Eq.mpr (β := (True ∧ (True ∧ (True ∧ ((([(⟨#[115, 101, 101, 110]⟩ : ByteArray), (⟨#[97, 110, 115, 119, 101, 114, 101, 100]⟩ : ByteArray), (⟨#[102, 108, 97, 103, 103, 101, 100]⟩ : ByteArray), (⟨#[100, 101, 108, 101, 116, 101, 100]⟩ : ByteArray), (⟨#[100, 114, 97, 102, 116]⟩ : ByteArray)]) = flagW) ∧ true = true))))) (by kernel_rfl) ?_
  simp only [btw_iff, btw_not, flagsOk, Bool.not_true, Bool.not_false, SI2A, eq_self]
  repeat' (with_reducible first | exact trivial | apply And.intro | intro _)
  all_goals rfl
def e_s_l5Words : Entry Tryz.prog := ⟨65, [], fun x => True, fun x => .c (.row 0 0), fun x => [.row tyStr flagW 0 0 none], fun x hx => b_s_l5Words , Tryz.call65⟩
def L_s_FlagsText (b : Int) : Nat → List AV → Mem → LoopA
  | 3, tm, M => ⟨Nat, fun y => (anyR (setA tm [(3, .c (.row 0 0)), (4, .c (.int .i64 ((y : Nat) : Int)))]) 5 22, setM M [(0, .row tyStr (namesN flagW b y) 0 0 none)]), fun y => (y ≤ 5 ∧ (y = 0 ∨ flagsOk b = true)), fun y => (5 - y)⟩
  | _, _, _ => ⟨Unit, fun _ => ([], []), fun _ => False, fun _ => 0⟩
def k0ibhiw (b : Int) (y0 : Nat) : Prop := (True ∧ ((joPre (namesN flagW b y0) (⟨#[32]⟩ : ByteArray) ∧ true = true ∧ true = true) ∧ (True ∧ (rS (joS (namesN flagW b y0) (⟨#[32]⟩ : ByteArray)) (flagT b)))))
theorem b_s_FlagsText (b : Int) : BCalls Tryz.prog 39 [.c (.int .i64 b)] (.c (.str (flagT b))) [] := by
  refine bc0 [e_s_FlagsOk, e_s_l5Words, e_s_Joined] [] [] [] (L_s_FlagsText b) Tryz.func39 (fun hwf => ?_)
  refine Eq.mpr (β := (T4 ((∃ q : Nat, (q ≤ 5 ∧ (q = 0 ∨ flagsOk b = true)) ∧ ((lxs [.c (.int .i64 b), .tp [], .c (.str (⟨#[]⟩ : ByteArray)), .c (.row 0 0)] (leV (.c (.int .i64 0)) (.c (.int .i64 ((q : Nat) : Int))) ∧ TN 22 (lxs [.tp [], .tp []] True))) ∧ (leB (.row tyStr ([] : List ByteArray) 0 0 none) (.row tyStr (namesN flagW b q) 0 0 none) ∧ True) ∧ true = true)) ∧ ∀ y0 : Nat, (y0 ≤ 5 ∧ (y0 = 0 ∨ flagsOk b = true)) → (T3 (bif (ltI ((y0 : Nat) : Int) 5) then (True ∧ ((True ∧ true = true) ∧ (True ∧ (bif flagsOk b then (T2 (true = true ∧ ((0 : Int) ≤ (IntKind.wrap .u64 ((y0 : Nat) : Int)) ∧ (T2 (bif (eqI (IntKind.wrap .i64 (((BitVec.ofInt (IntKind.bits .i64) (shrI .i64 b (IntKind.wrap .u64 ((y0 : Nat) : Int))) &&& BitVec.ofInt (IntKind.bits .i64) 1).toNat : Nat))) 1) then (True ∧ ((True ∧ true = true) ∧ (True ∧ (((1 : Nat) = 1 ∧ (0 : Int) ≤ ((y0 : Nat) : Int) ∧ (((y0 : Nat) : Int) : Int) < ((List.length flagW : Nat) : Int)) ∧ (T2 ((True ∧ List.length (namesN flagW b y0) + List.length ([(nth_String flagW (Int.toNat ((y0 : Nat) : Int)))]) ≤ rowMax) ∧ (T4 (∃ y0' : Nat, (y0' ≤ 5 ∧ (y0' = 0 ∨ flagsOk b = true)) ∧ (5 - y0') < (5 - y0) ∧ ((lxs [.c (.int .i64 b), .tp [], .c (.str (⟨#[]⟩ : ByteArray)), .c (.row 0 0)] (leV (.c (.int .i64 (IntKind.wrap .i64 (((y0 : Nat) : Int) + 1)))) (.c (.int .i64 ((y0' : Nat) : Int))) ∧ TN 22 (lxs [.tp [], .tp []] True))) ∧ (leB (.row tyStr ((namesN flagW b y0) ++ [(nth_String flagW (Int.toNat ((y0 : Nat) : Int)))]) 0 0 none) (.row tyStr (namesN flagW b y0') 0 0 none) ∧ True) ∧ true = true))))))))) else (T3 (∃ y0' : Nat, (y0' ≤ 5 ∧ (y0' = 0 ∨ flagsOk b = true)) ∧ (5 - y0') < (5 - y0) ∧ ((lxs [.c (.int .i64 b), .tp [], .c (.str (⟨#[]⟩ : ByteArray)), .c (.row 0 0)] (leV (.c (.int .i64 (IntKind.wrap .i64 (((y0 : Nat) : Int) + 1)))) (.c (.int .i64 ((y0' : Nat) : Int))) ∧ TN 22 (lxs [.tp [], .tp []] True))) ∧ (leB (.row tyStr (namesN flagW b y0) 0 0 none) (.row tyStr (namesN flagW b y0') 0 0 none) ∧ True) ∧ true = true)))))))) else (k0ibhiw b y0))))) else (True ∧ (k0ibhiw b y0))))))) (by kernel_rfl) ?_
  unfold k0ibhiw T2 T3 T4
  simp only [leB_rowU8, Bool.not_true, Bool.not_false, SI2A, eq_self]
  refine ⟨⟨0, ⟨Nat.zero_le _, .inl rfl⟩, rfl, rfl⟩, fun y hy => ?_⟩
  have w := wu64 (k := y) (by omega)
  have hl := names_len flagW b y
  simp only [w]
  repeat' (with_reducible first | exact trivial | apply And.intro | intro _)
  all_goals first
    | (with_reducible trivial)
    | omega
    | (with_reducible assumption)
    | ((try simp only [List.length_append, List.length_cons, List.length_nil, byteL_len]); (first | unfold rowMax | unfold maxLen); omega)
    | (show ((y : Nat) : Int) < 5; omega)
    | exact ⟨y + 1, ⟨by omega, .inr (by assumption)⟩, by omega, wrapN (by unfold maxLen; omega), (names_y (eqI_true.2 (by assumption))).symm⟩
    | exact ⟨y + 1, ⟨by omega, .inr (by assumption)⟩, by omega, wrapN (by unfold maxLen; omega), (names_n (eqI_false.2 (by assumption))).symm⟩
    | exact namesPre hy.1
    | exact flag_no hy.2 (by assumption)
    | exact flag_yes hy.1 (by assumption) hy.2
def e_s_FlagsText : Entry Tryz.prog := ⟨39, [.v tyInt], fun x => True, fun x => .c (.str (flagT x.1)), fun _ => [], fun x hx => b_s_FlagsText x.1, Tryz.call39⟩
end Go.Proofs.YtoigkpkafgjeaaaGreatDoor
