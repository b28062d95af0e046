/-
  Tokens of a filter.
  No condition but what the arguments' cells hold. Printed by vcgen.py.
-/
import Derived.Test.YtbpapaponnfagaaMBlCmd1
import Derived.Test.YtbpapaponnfagaaMBmRw
set_option linter.unusedSimpArgs false
set_option linter.unusedVariables false
set_option maxRecDepth 100000
set_option maxHeartbeats 4000000
namespace Go.Proofs.Ytbpapaponnfagaa
open Go.ChangeShapes Go.WideShapes Go.ChangeAt Go.RowKit Go.Joins Go.Deep
open GoRep (rep bulk)

def scW : List ByteArray := [(⟨#[]⟩ : ByteArray), (⟨#[115, 101, 108, 101, 99, 116, 101, 100]⟩ : ByteArray), (⟨#[112, 101, 114, 115, 111, 110, 97, 108]⟩ : ByteArray), (⟨#[115, 117, 98, 116, 114, 101, 101]⟩ : ByteArray), (⟨#[98, 111, 120, 101, 115]⟩ : ByteArray)]
def evW : List ByteArray := [(⟨#[110, 101, 119]⟩ : ByteArray), (⟨#[103, 111, 110, 101]⟩ : ByteArray), (⟨#[102, 108, 97, 103, 115]⟩ : ByteArray), (⟨#[110, 97, 109, 101, 115]⟩ : ByteArray)]
def atomsN (ws : List ByteArray) : Nat → List GToken
  | 0 => []
  | k + 1 => atomsN ws k ++ [atomK (nth_String ws k)]
theorem atoms_len (ws : List ByteArray) : ∀ k, (atomsN ws k).length = k
  | 0 => rfl
  | k + 1 => by unfold atomsN; rw [List.length_append, atoms_len ws k]; rfl
def evN (b : Int) : Nat → List GToken
  | 0 => []
  | k + 1 => if bitB b k = true then evN b k ++ [atomK (nth_String evW k)] else evN b k
theorem ev_len (b : Int) : ∀ k, (evN b k).length ≤ k
  | 0 => Nat.le_refl _
  | k + 1 => by
    have := ev_len b k
    unfold evN
    split
    · rw [List.length_append, List.length_singleton]; omega
    · omega
def nmTok (z : GScope) : List GToken := if 3 ≤ z.1 then [openK] ++ atomsN z.2.1 z.2.1.length ++ [closeK] else []
def scTok (z : GScope) : List GToken := [openK, atomK (nth_String scW (Int.toNat z.1))] ++ nmTok z ++ [openK] ++ evN z.2.2 4 ++ [closeK, closeK]
def scsN (l : List GScope) : Nat → List GToken
  | 0 => [atomK (⟨#[115, 101, 116]⟩ : ByteArray)]
  | k + 1 => scsN l k ++ scTok (nth_Scope l k)
def filTok (f : GFilter) : List GToken := if filterOk f = false then [] else if f.1 = false then [atomK (⟨#[110, 111, 110, 101]⟩ : ByteArray)] else scsN f.2 f.2.length
theorem filter_at {f : GFilter} (h : filterOk f = true) (h1 : f.1 = true) : f.2.length ≤ 3 ∧ ∀ k, k < f.2.length → scopeOk (nth_Scope f.2 k) = true := by
  unfold filterOk at h
  rw [if_pos h1, Bool.and_eq_true, btw_iff] at h
  refine ⟨by omega, fun k hk => ?_⟩
  have h2 : List.any f.2 (fun z0 : GScope => !scopeOk z0) = false := by simpa using h.2
  have h3 := List.any_eq_false.1 h2 (nth_Scope f.2 k) (List.mem_of_getElem? (nth_getElem? (t := tyScope) hk))
  simpa using h3
theorem scope_facts {z : GScope} (h : scopeOk z = true) : (1 ≤ z.1 ∧ z.1 ≤ 4) ∧ (3 ≤ z.1 → z.2.1.length ≤ 3) := by
  unfold scopeOk at h
  simp only [Bool.and_eq_true, btw_iff] at h
  refine ⟨h.1, fun h3 => ?_⟩
  have := h.2.2
  rw [if_neg (by omega), Bool.and_eq_true, btw_iff] at this
  omega
theorem nmTok_len {z : GScope} (h : scopeOk z = true) : (nmTok z).length ≤ 5 := by
  unfold nmTok
  split
  · rename_i h3
    have := (scope_facts h).2 h3
    simp only [List.length_append, List.length_singleton, atoms_len]
    omega
  · exact Nat.zero_le _
theorem scTok_len {z : GScope} (h : scopeOk z = true) : (scTok z).length ≤ 14 := by
  have h1 := nmTok_len h
  have h2 := ev_len z.2.2 4
  unfold scTok
  simp only [List.length_append, List.length_cons, List.length_nil]
  omega
theorem scs_len {f : GFilter} (h : filterOk f = true) (h1 : f.1 = true) : ∀ k, k ≤ f.2.length → (scsN f.2 k).length ≤ 1 + 14 * k
  | 0, _ => Nat.le_refl _
  | k + 1, hk => by
    have h2 := scs_len h h1 k (by omega)
    have h3 := scTok_len ((filter_at h h1).2 k (by omega))
    unfold scsN
    rw [List.length_append]
    omega
theorem fil_off {f : GFilter} (h : filterOk f = true) (h1 : f.1 = false) : [atomK (⟨#[110, 111, 110, 101]⟩ : ByteArray)] = filTok f := by
  unfold filTok
  rw [if_neg (by rw [h]; decide), if_pos h1]
theorem fil_on {f : GFilter} {y : Nat} (h : filterOk f = true) (h1 : f.1 = true) (hk : y ≤ f.2.length) (hk2 : ¬ ((y : Nat) : Int) < ((f.2.length : Nat) : Int)) : scsN f.2 y = filTok f := by
  obtain rfl : y = f.2.length := by omega
  unfold filTok
  rw [if_neg (by rw [h]; decide), if_neg (by rw [h1]; decide)]
theorem b_s_l6Words  : BCalls Try.prog 31 [] (.c (.row 0 0)) [.row tyStr scW 0 0 none] := by
  refine bc0 [] [] [] [] L0 Try.func31 (fun hwf => ?_)
  refine Eq.mpr (β := (True ∧ (True ∧ (True ∧ ((([(⟨#[]⟩ : ByteArray), (⟨#[115, 101, 108, 101, 99, 116, 101, 100]⟩ : ByteArray), (⟨#[112, 101, 114, 115, 111, 110, 97, 108]⟩ : ByteArray), (⟨#[115, 117, 98, 116, 114, 101, 101]⟩ : ByteArray), (⟨#[98, 111, 120, 101, 115]⟩ : ByteArray)]) = scW) ∧ true = true))))) (by kernel_rfl) ?_
  simp only [btw_iff, btw_not, flagsOk, Bool.not_true, Bool.not_false, SI2A, eq_self]
  repeat' (with_reducible first | exact trivial | apply And.intro | intro _)
  all_goals rfl
def e_s_l6Words : Entry Try.prog := ⟨31, [], fun x => True, fun x => .c (.row 0 0), fun x => [.row tyStr scW 0 0 none], fun x hx => b_s_l6Words , Try.call31⟩
theorem b_s_l6Events  : BCalls Try.prog 67 [] (.c (.row 0 0)) [.row tyStr evW 0 0 none] := by
  refine bc0 [] [] [] [] L0 Try.func67 (fun hwf => ?_)
  refine Eq.mpr (β := (True ∧ (True ∧ (True ∧ ((([(⟨#[110, 101, 119]⟩ : ByteArray), (⟨#[103, 111, 110, 101]⟩ : ByteArray), (⟨#[102, 108, 97, 103, 115]⟩ : ByteArray), (⟨#[110, 97, 109, 101, 115]⟩ : ByteArray)]) = evW) ∧ true = true))))) (by kernel_rfl) ?_
  simp only [btw_iff, btw_not, flagsOk, Bool.not_true, Bool.not_false, SI2A, eq_self]
  repeat' (with_reducible first | exact trivial | apply And.intro | intro _)
  all_goals rfl
def e_s_l6Events : Entry Try.prog := ⟨67, [], fun x => True, fun x => .c (.row 0 0), fun x => [.row tyStr evW 0 0 none], fun x hx => b_s_l6Events , Try.call67⟩
end Go.Proofs.Ytbpapaponnfagaa
