/-
  Contracts of ActWord and StateWord, the program's and the reference's: the word of a number, in new memory at most.
  No condition.
-/
import Derived.Test.YtdhphnjmpibjpaaNums
namespace Go.Proofs.Ytdhphnjmpibjpaa
open Go.ChangeShapes Go.WideShapes Go.ChangeAt Go.RowKit Go.Joins Go.Deep

def actW (k : Int) : ByteArray := if k = 1 then ⟨#[99, 111, 110, 110, 101, 99, 116]⟩ else if k = 2 then ⟨#[100, 114, 111, 112]⟩ else if k = 3 then ⟨#[103, 105, 118, 101]⟩ else if k = 4 then ⟨#[116, 97, 107, 101]⟩ else if k = 5 then ⟨#[116, 105, 99, 107]⟩ else if k = 6 then ⟨#[114, 117, 110]⟩ else ⟨#[]⟩
def stateW (k : Int) : ByteArray := if k = 1 then ⟨#[110, 101, 119]⟩ else if k = 2 then ⟨#[107, 110, 111, 119, 110]⟩ else if k = 3 then ⟨#[98, 111, 120]⟩ else if k = 4 then ⟨#[108, 101, 97, 118, 105, 110, 103]⟩ else ⟨#[]⟩

set_option maxHeartbeats 400000 in
theorem i_ActWord (k : Int) (w : World) :
    Calls Try.prog 11 #[.int .i64 k] w fun e w' => e = .returned (.string (actW k)) ∧ Below w.heap.size w w' := by
  by_cases h : 1 ≤ k ∧ k ≤ 6
  · have hk : k = 1 ∨ k = 2 ∨ k = 3 ∨ k = 4 ∨ k = 5 ∨ k = 6 := by omega
    clear h
    rcases hk with rfl | rfl | rfl | rfl | rfl | rfl
    all_goals
      go_enter Try.func11, Try.ntmps11
      go_wp2_with (go_at_call 31; refine (i_within _ _ _ _).mono ?_; rintro e w' ⟨rfl, rfl⟩)
      go_ret
      exact ⟨rfl, (Below.refl _ _).alloc (Nat.le_refl _) _⟩
  · have hb : btw k 1 6 = false := btw_false (by omega)
    go_enter Try.func11, Try.ntmps11
    go_wp2_with (go_at_call 31; refine (i_within _ _ _ _).mono ?_; rintro e w' ⟨rfl, rfl⟩)
    go_ret
    exact ⟨ret_str (by unfold actW; repeat rw [if_neg (by omega)]), Below.refl _ _⟩
set_option maxHeartbeats 400000 in
theorem s_ActWord (k : Int) (w : World) :
    Calls Try.prog 10 #[.int .i64 k] w fun e w' => e = .returned (.string (actW k)) ∧ Below w.heap.size w w' := by
  by_cases h : 1 ≤ k ∧ k ≤ 6
  · have hk : k = 1 ∨ k = 2 ∨ k = 3 ∨ k = 4 ∨ k = 5 ∨ k = 6 := by omega
    clear h
    rcases hk with rfl | rfl | rfl | rfl | rfl | rfl
    all_goals
      go_enter Try.func10, Try.ntmps10
      go_wp2_with (go_at_call 30; refine (s_l1In _ _ _ _).mono ?_; rintro e w' ⟨rfl, rfl⟩)
      go_ret
      exact ⟨rfl, (Below.refl _ _).alloc (Nat.le_refl _) _⟩
  · have hb : btw k 1 6 = false := btw_false (by omega)
    go_enter Try.func10, Try.ntmps10
    go_wp2_with (go_at_call 30; refine (s_l1In _ _ _ _).mono ?_; rintro e w' ⟨rfl, rfl⟩)
    go_ret
    exact ⟨ret_str (by unfold actW; repeat rw [if_neg (by omega)]), Below.refl _ _⟩
set_option maxHeartbeats 400000 in
theorem i_StateWord (k : Int) (w : World) :
    Calls Try.prog 13 #[.int .i64 k] w fun e w' => e = .returned (.string (stateW k)) ∧ Below w.heap.size w w' := by
  by_cases h : 1 ≤ k ∧ k ≤ 4
  · have hk : k = 1 ∨ k = 2 ∨ k = 3 ∨ k = 4 := by omega
    clear h
    rcases hk with rfl | rfl | rfl | rfl
    all_goals
      go_enter Try.func13, Try.ntmps13
      go_wp2_with (go_at_call 31; refine (i_within _ _ _ _).mono ?_; rintro e w' ⟨rfl, rfl⟩)
      go_ret
      exact ⟨rfl, (Below.refl _ _).alloc (Nat.le_refl _) _⟩
  · have hb : btw k 1 4 = false := btw_false (by omega)
    go_enter Try.func13, Try.ntmps13
    go_wp2_with (go_at_call 31; refine (i_within _ _ _ _).mono ?_; rintro e w' ⟨rfl, rfl⟩)
    go_ret
    exact ⟨ret_str (by unfold stateW; repeat rw [if_neg (by omega)]), Below.refl _ _⟩
set_option maxHeartbeats 400000 in
theorem s_StateWord (k : Int) (w : World) :
    Calls Try.prog 12 #[.int .i64 k] w fun e w' => e = .returned (.string (stateW k)) ∧ Below w.heap.size w w' := by
  by_cases h : 1 ≤ k ∧ k ≤ 4
  · have hk : k = 1 ∨ k = 2 ∨ k = 3 ∨ k = 4 := by omega
    clear h
    rcases hk with rfl | rfl | rfl | rfl
    all_goals
      go_enter Try.func12, Try.ntmps12
      go_wp2_with (go_at_call 30; refine (s_l1In _ _ _ _).mono ?_; rintro e w' ⟨rfl, rfl⟩)
      go_ret
      exact ⟨rfl, (Below.refl _ _).alloc (Nat.le_refl _) _⟩
  · have hb : btw k 1 4 = false := btw_false (by omega)
    go_enter Try.func12, Try.ntmps12
    go_wp2_with (go_at_call 30; refine (s_l1In _ _ _ _).mono ?_; rintro e w' ⟨rfl, rfl⟩)
    go_ret
    exact ⟨ret_str (by unfold stateW; repeat rw [if_neg (by omega)]), Below.refl _ _⟩
end Go.Proofs.Ytdhphnjmpibjpaa
