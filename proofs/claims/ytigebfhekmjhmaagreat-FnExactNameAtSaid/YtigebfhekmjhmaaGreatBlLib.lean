/-
  The library's functions on slices.
  No condition but what the arguments' cells hold. Printed by vcgen.py.
-/
import Derived.Test.YtigebfhekmjhmaaGreatBmTy
set_option linter.unusedSimpArgs false
set_option linter.unusedVariables false
namespace Go.Proofs.YtigebfhekmjhmaaGreat
open Go.ChangeShapes Go.WideShapes Go.ChangeAt Go.RowKit Go.Joins Go.Deep
open GoRep (rep bulk)

def L_slices_IndexFunc_i_Box_i_Box (p : GBox → Bool) (xs : List GBox) : Nat → List AV → Mem → LoopA
  | 2, tm, M => ⟨Nat, fun y => (setA tm [(4, .any), (5, .any), (8, .c (.int .i64 ((y : Nat) : Int))), (9, .any), (10, .any), (11, .any), (12, .any), (13, .any), (14, .any), (15, .any), (16, .any), (17, .any), (18, .any)], M), fun y => (y ≤ List.length xs ∧ ∀ j, j < y → p (nth_Box xs j) = false), fun y => (List.length xs - y)⟩
  | _, _, _ => ⟨Unit, fun _ => ([], []), fun _ => False, fun _ => 0⟩
set_option maxRecDepth 100000 in
set_option maxHeartbeats 400000 in
theorem h_slices_IndexFunc_i_Box_i_Box (p : GBox → Bool) (xs : List GBox) (u : Value) (X : List Nat) (W : World) (v : Value) (hsz : ∀ b ∈ X, b < W.heap.size) (hgl : Glob W []) (hv : RepC X W [] [] (.hs .no tyBox xs) v) (hc : ClosOk X W Tryz.prog u true tyBox p) :
    Calls Tryz.prog 136 #[v, u] W (fun e W' => ∃ v E', e = .returned v ∧ Grow W [] W' E' ∧ RepM X W' E' [] ∧ RepV X W' E' [] (.c (.int .i64 (idxL p xs))) v) := by
  obtain ⟨g, caps, rfl, ent, hc⟩ := hc
  refine hcalls_of (T := ⟨[], [], [], [], some ⟨_, g, caps, rfl, [.s tyBox], fun x => .c (.bool (p x.1)), ent⟩, fun _ => [], 0, [], []⟩) (L := (L_slices_IndexFunc_i_Box_i_Box p xs)) (args := [.c (.hs .no tyBox xs), .c (.raw ((Value.func (.func g) #[] caps.toArray)))]) Tryz.func136 ⟨rfl, rfl⟩ (fun c hc' => ?_) hsz hgl ⟨v, _, rfl, hv, _, [], rfl, ⟨rfl, rfl⟩, rfl⟩ (fun hwf => ?_)
  · obtain rfl := Option.some.inj hc'
    intro W' E' x vs gr hr
    obtain ⟨va, r, rfl, h1, hnil⟩ := hr
    obtain rfl : r = [] := hnil
    exact hc W' E' x.1 va gr h1
  refine Eq.mpr (β := (True ∧ (True ∧ (True ∧ (True ∧ ((∃ q : Nat, (q ≤ List.length xs ∧ ∀ j, j < q → p (nth_Box xs j) = false) ∧ ((leV (.c (.hs .no tyBox xs)) (.c (.hs .no tyBox xs)) ∧ leV (.c (.raw ((Value.func (.func g) #[] caps.toArray)))) (.c (.raw ((Value.func (.func g) #[] caps.toArray)))) ∧ leV (.tp []) (.tp []) ∧ leV (.tp []) (.tp []) ∧ True ∧ True ∧ leV (.c (.hs .no tyBox xs)) (.c (.hs .no tyBox xs)) ∧ leV (.c (.int .i64 ((List.length xs : Nat) : Int))) (.c (.int .i64 ((List.length xs : Nat) : Int))) ∧ leV (.c (.int .i64 0)) (.c (.int .i64 ((q : Nat) : Int))) ∧ True ∧ True ∧ True ∧ True ∧ True ∧ True ∧ True ∧ True ∧ True ∧ True ∧ True) ∧ (True) ∧ true = true)) ∧ ∀ y0 : Nat, (y0 ≤ List.length xs ∧ ∀ j, j < y0 → p (nth_Box xs j) = false) → (True ∧ (bif (ltI ((y0 : Nat) : Int) ((List.length xs : Nat) : Int)) then (True ∧ (True ∧ (True ∧ (True ∧ (True ∧ (((4 : Nat) = 4 ∧ (0 : Int) ≤ ((y0 : Nat) : Int) ∧ (((y0 : Nat) : Int) : Int) < ((List.length xs : Nat) : Int)) ∧ (True ∧ (((Value.func (.func g) #[] caps.toArray) = (Value.func (.func g) #[] caps.toArray) ∧ true = true) ∧ (bif (p (nth_Box xs (Int.toNat ((y0 : Nat) : Int)))) then (True ∧ (True ∧ ((true = true ∧ leC (.int .i64 ((y0 : Nat) : Int)) (.int .i64 (idxL p xs))) ∧ true = true))) else (True ∧ (True ∧ (∃ y0' : Nat, (y0' ≤ List.length xs ∧ ∀ j, j < y0' → p (nth_Box xs j) = false) ∧ (List.length xs - y0') < (List.length xs - y0) ∧ ((leV (.c (.hs .no tyBox xs)) (.c (.hs .no tyBox xs)) ∧ leV (.c (.raw ((Value.func (.func g) #[] caps.toArray)))) (.c (.raw ((Value.func (.func g) #[] caps.toArray)))) ∧ leV (.tp []) (.tp []) ∧ leV (.tp []) (.tp []) ∧ True ∧ True ∧ leV (.c (.hs .no tyBox xs)) (.c (.hs .no tyBox xs)) ∧ leV (.c (.int .i64 ((List.length xs : Nat) : Int))) (.c (.int .i64 ((List.length xs : Nat) : Int))) ∧ leV (.c (.int .i64 (IntKind.wrap .i64 (((y0 : Nat) : Int) + 1)))) (.c (.int .i64 ((y0' : Nat) : Int))) ∧ True ∧ True ∧ True ∧ True ∧ True ∧ True ∧ True ∧ True ∧ True ∧ True ∧ True) ∧ (True) ∧ true = true))))))))))))) else (True ∧ ((true = true ∧ leC (.int .i64 (-1)) (.int .i64 (idxL p xs))) ∧ true = true)))))))))) (by kernel_rfl) ?_
  simp only [true_and, and_true, cond_iff, eqI_true, eqI_false, neI_true, neI_false, ltI_true, ltI_false, leI_true, leI_false, gtI_true, gtI_false, geI_true, geI_false, eqS_true, eqS_false, eqO_true, eqO_false, not_true, not_false, Bool.not_eq_true', Bool.not_eq_false', eq_self, leV_any, leV_int, leV_bool, leV_str, leV_refl, leB_refl, leC_int, leC_bool, leC_str, leC_hs, leB_row, Int.toNat_natCast]
  have hm : xs.length ≤ maxLen := hwf.1.1
  refine ⟨⟨0, ⟨Nat.zero_le _, allN_zero⟩, rfl⟩, fun k hk => ⟨fun hlt => ⟨by omega, fun hp => ?_, fun hp => ?_⟩, fun hge => ?_⟩⟩
  · have hk' : k < xs.length := by omega
    exact (idxL_nth (t := tyBox) hk' hk.2 hp).symm
  · exact ⟨k + 1, ⟨by omega, allN_step hk.2 hp⟩, by omega, wrapN (by omega)⟩
  · obtain rfl : k = xs.length := by omega
    exact (idxL_nth_none (t := tyBox) hk.2).symm
def e_slices_IndexFunc_i_Box_i_Box : HEntry Tryz.prog := ⟨136, tyBox, true, fun p xs => .int .i64 (idxL p xs), h_slices_IndexFunc_i_Box_i_Box, Tryz.call136⟩
def L_slices_IndexFunc_i_Msg_i_Msg (p : GMsg → Bool) (xs : List GMsg) : Nat → List AV → Mem → LoopA
  | 2, tm, M => ⟨Nat, fun y => (setA tm [(4, .any), (5, .any), (8, .c (.int .i64 ((y : Nat) : Int))), (9, .any), (10, .any), (11, .any), (12, .any), (13, .any), (14, .any), (15, .any), (16, .any), (17, .any), (18, .any)], M), fun y => (y ≤ List.length xs ∧ ∀ j, j < y → p (nth_Msg xs j) = false), fun y => (List.length xs - y)⟩
  | _, _, _ => ⟨Unit, fun _ => ([], []), fun _ => False, fun _ => 0⟩
set_option maxRecDepth 100000 in
set_option maxHeartbeats 400000 in
theorem h_slices_IndexFunc_i_Msg_i_Msg (p : GMsg → Bool) (xs : List GMsg) (u : Value) (X : List Nat) (W : World) (v : Value) (hsz : ∀ b ∈ X, b < W.heap.size) (hgl : Glob W []) (hv : RepC X W [] [] (.hs .no tyMsg xs) v) (hc : ClosOk X W Tryz.prog u true tyMsg p) :
    Calls Tryz.prog 297 #[v, u] W (fun e W' => ∃ v E', e = .returned v ∧ Grow W [] W' E' ∧ RepM X W' E' [] ∧ RepV X W' E' [] (.c (.int .i64 (idxL p xs))) v) := by
  obtain ⟨g, caps, rfl, ent, hc⟩ := hc
  refine hcalls_of (T := ⟨[], [], [], [], some ⟨_, g, caps, rfl, [.s tyMsg], fun x => .c (.bool (p x.1)), ent⟩, fun _ => [], 0, [], []⟩) (L := (L_slices_IndexFunc_i_Msg_i_Msg p xs)) (args := [.c (.hs .no tyMsg xs), .c (.raw ((Value.func (.func g) #[] caps.toArray)))]) Tryz.func297 ⟨rfl, rfl⟩ (fun c hc' => ?_) hsz hgl ⟨v, _, rfl, hv, _, [], rfl, ⟨rfl, rfl⟩, rfl⟩ (fun hwf => ?_)
  · obtain rfl := Option.some.inj hc'
    intro W' E' x vs gr hr
    obtain ⟨va, r, rfl, h1, hnil⟩ := hr
    obtain rfl : r = [] := hnil
    exact hc W' E' x.1 va gr h1
  refine Eq.mpr (β := (True ∧ (True ∧ (True ∧ (True ∧ ((∃ q : Nat, (q ≤ List.length xs ∧ ∀ j, j < q → p (nth_Msg xs j) = false) ∧ ((leV (.c (.hs .no tyMsg xs)) (.c (.hs .no tyMsg xs)) ∧ leV (.c (.raw ((Value.func (.func g) #[] caps.toArray)))) (.c (.raw ((Value.func (.func g) #[] caps.toArray)))) ∧ leV (.tp []) (.tp []) ∧ leV (.tp []) (.tp []) ∧ True ∧ True ∧ leV (.c (.hs .no tyMsg xs)) (.c (.hs .no tyMsg xs)) ∧ leV (.c (.int .i64 ((List.length xs : Nat) : Int))) (.c (.int .i64 ((List.length xs : Nat) : Int))) ∧ leV (.c (.int .i64 0)) (.c (.int .i64 ((q : Nat) : Int))) ∧ True ∧ True ∧ True ∧ True ∧ True ∧ True ∧ True ∧ True ∧ True ∧ True ∧ True) ∧ (True) ∧ true = true)) ∧ ∀ y0 : Nat, (y0 ≤ List.length xs ∧ ∀ j, j < y0 → p (nth_Msg xs j) = false) → (True ∧ (bif (ltI ((y0 : Nat) : Int) ((List.length xs : Nat) : Int)) then (True ∧ (True ∧ (True ∧ (True ∧ (True ∧ (((3 : Nat) = 3 ∧ (0 : Int) ≤ ((y0 : Nat) : Int) ∧ (((y0 : Nat) : Int) : Int) < ((List.length xs : Nat) : Int)) ∧ (True ∧ (((Value.func (.func g) #[] caps.toArray) = (Value.func (.func g) #[] caps.toArray) ∧ true = true) ∧ (bif (p (nth_Msg xs (Int.toNat ((y0 : Nat) : Int)))) then (True ∧ (True ∧ ((true = true ∧ leC (.int .i64 ((y0 : Nat) : Int)) (.int .i64 (idxL p xs))) ∧ true = true))) else (True ∧ (True ∧ (∃ y0' : Nat, (y0' ≤ List.length xs ∧ ∀ j, j < y0' → p (nth_Msg xs j) = false) ∧ (List.length xs - y0') < (List.length xs - y0) ∧ ((leV (.c (.hs .no tyMsg xs)) (.c (.hs .no tyMsg xs)) ∧ leV (.c (.raw ((Value.func (.func g) #[] caps.toArray)))) (.c (.raw ((Value.func (.func g) #[] caps.toArray)))) ∧ leV (.tp []) (.tp []) ∧ leV (.tp []) (.tp []) ∧ True ∧ True ∧ leV (.c (.hs .no tyMsg xs)) (.c (.hs .no tyMsg xs)) ∧ leV (.c (.int .i64 ((List.length xs : Nat) : Int))) (.c (.int .i64 ((List.length xs : Nat) : Int))) ∧ leV (.c (.int .i64 (IntKind.wrap .i64 (((y0 : Nat) : Int) + 1)))) (.c (.int .i64 ((y0' : Nat) : Int))) ∧ True ∧ True ∧ True ∧ True ∧ True ∧ True ∧ True ∧ True ∧ True ∧ True ∧ True) ∧ (True) ∧ true = true))))))))))))) else (True ∧ ((true = true ∧ leC (.int .i64 (-1)) (.int .i64 (idxL p xs))) ∧ true = true)))))))))) (by kernel_rfl) ?_
  simp only [true_and, and_true, cond_iff, eqI_true, eqI_false, neI_true, neI_false, ltI_true, ltI_false, leI_true, leI_false, gtI_true, gtI_false, geI_true, geI_false, eqS_true, eqS_false, eqO_true, eqO_false, not_true, not_false, Bool.not_eq_true', Bool.not_eq_false', eq_self, leV_any, leV_int, leV_bool, leV_str, leV_refl, leB_refl, leC_int, leC_bool, leC_str, leC_hs, leB_row, Int.toNat_natCast]
  have hm : xs.length ≤ maxLen := hwf.1.1
  refine ⟨⟨0, ⟨Nat.zero_le _, allN_zero⟩, rfl⟩, fun k hk => ⟨fun hlt => ⟨by omega, fun hp => ?_, fun hp => ?_⟩, fun hge => ?_⟩⟩
  · have hk' : k < xs.length := by omega
    exact (idxL_nth (t := tyMsg) hk' hk.2 hp).symm
  · exact ⟨k + 1, ⟨by omega, allN_step hk.2 hp⟩, by omega, wrapN (by omega)⟩
  · obtain rfl : k = xs.length := by omega
    exact (idxL_nth_none (t := tyMsg) hk.2).symm
def e_slices_IndexFunc_i_Msg_i_Msg : HEntry Tryz.prog := ⟨297, tyMsg, true, fun p xs => .int .i64 (idxL p xs), h_slices_IndexFunc_i_Msg_i_Msg, Tryz.call297⟩
end Go.Proofs.YtigebfhekmjhmaaGreat
