/-
  The library's functions on slices.
  No condition but what the arguments' cells hold. Printed by vcgen.py.
-/
import Derived.Test.YtigebfhekmjhmaaGreatXBmTy
set_option linter.unusedSimpArgs false
set_option linter.unusedVariables false
namespace Go.Proofs.YtigebfhekmjhmaaGreat
open Go.ChangeShapes Go.WideShapes Go.ChangeAt Go.RowKit Go.Joins Go.Deep
open GoRep (rep bulk)

def L_slices_IndexFunc_i_Scope_i_Scope (p : GScope → Bool) (xs : List GScope) : Nat → List AV → Mem → LoopA
  | 2, tm, M => ⟨Nat, fun y => (setA tm [(4, .any), (5, .any), (8, .c (.int .i64 ((y : Nat) : Int))), (9, .any), (10, .any), (11, .any), (12, .any), (13, .any), (14, .any), (15, .any), (16, .any), (17, .any), (18, .any)], M), fun y => (y ≤ List.length xs ∧ ∀ j, j < y → p (nth_Scope xs j) = false), fun y => (List.length xs - y)⟩
  | _, _, _ => ⟨Unit, fun _ => ([], []), fun _ => False, fun _ => 0⟩
set_option maxRecDepth 100000 in
set_option maxHeartbeats 400000 in
theorem h_slices_IndexFunc_i_Scope_i_Scope (p : GScope → Bool) (xs : List GScope) (u : Value) (X : List Nat) (W : World) (v : Value) (hsz : ∀ b ∈ X, b < W.heap.size) (hgl : Glob W []) (hv : RepC X W [] [] (.hs .no tyScope xs) v) (hc : ClosOk X W Tryz.prog u true tyScope p) :
    Calls Tryz.prog 203 #[v, u] W (fun e W' => ∃ v E', e = .returned v ∧ Grow W [] W' E' ∧ RepM X W' E' [] ∧ RepV X W' E' [] (.c (.int .i64 (idxL p xs))) v) := by
  obtain ⟨g, caps, rfl, ent, hc⟩ := hc
  refine hcalls_of (T := ⟨[], [], [], [], some ⟨_, g, caps, rfl, [.s tyScope], fun x => .c (.bool (p x.1)), ent⟩, fun _ => [], 0, [], []⟩) (L := (L_slices_IndexFunc_i_Scope_i_Scope p xs)) (args := [.c (.hs .no tyScope xs), .c (.raw ((Value.func (.func g) #[] caps.toArray)))]) Tryz.func203 ⟨rfl, rfl⟩ (fun c hc' => ?_) hsz hgl ⟨v, _, rfl, hv, _, [], rfl, ⟨rfl, rfl⟩, rfl⟩ (fun hwf => ?_)
  · obtain rfl := Option.some.inj hc'
    intro W' E' x vs gr hr
    obtain ⟨va, r, rfl, h1, hnil⟩ := hr
    obtain rfl : r = [] := hnil
    exact hc W' E' x.1 va gr h1
  refine Eq.mpr (β := (True ∧ (True ∧ (True ∧ (True ∧ ((∃ q : Nat, (q ≤ List.length xs ∧ ∀ j, j < q → p (nth_Scope xs j) = false) ∧ ((leV (.c (.hs .no tyScope xs)) (.c (.hs .no tyScope xs)) ∧ leV (.c (.raw ((Value.func (.func g) #[] caps.toArray)))) (.c (.raw ((Value.func (.func g) #[] caps.toArray)))) ∧ leV (.tp []) (.tp []) ∧ leV (.tp []) (.tp []) ∧ True ∧ True ∧ leV (.c (.hs .no tyScope xs)) (.c (.hs .no tyScope xs)) ∧ leV (.c (.int .i64 ((List.length xs : Nat) : Int))) (.c (.int .i64 ((List.length xs : Nat) : Int))) ∧ leV (.c (.int .i64 0)) (.c (.int .i64 ((q : Nat) : Int))) ∧ True ∧ True ∧ True ∧ True ∧ True ∧ True ∧ True ∧ True ∧ True ∧ True ∧ True) ∧ (True) ∧ true = true)) ∧ ∀ y0 : Nat, (y0 ≤ List.length xs ∧ ∀ j, j < y0 → p (nth_Scope xs j) = false) → (True ∧ (bif (ltI ((y0 : Nat) : Int) ((List.length xs : Nat) : Int)) then (True ∧ (True ∧ (True ∧ (True ∧ (True ∧ (((3 : Nat) = 3 ∧ (0 : Int) ≤ ((y0 : Nat) : Int) ∧ (((y0 : Nat) : Int) : Int) < ((List.length xs : Nat) : Int)) ∧ (True ∧ (((Value.func (.func g) #[] caps.toArray) = (Value.func (.func g) #[] caps.toArray) ∧ true = true) ∧ (bif (p (nth_Scope xs (Int.toNat ((y0 : Nat) : Int)))) then (True ∧ (True ∧ ((true = true ∧ leC (.int .i64 ((y0 : Nat) : Int)) (.int .i64 (idxL p xs))) ∧ true = true))) else (True ∧ (True ∧ (∃ y0' : Nat, (y0' ≤ List.length xs ∧ ∀ j, j < y0' → p (nth_Scope xs j) = false) ∧ (List.length xs - y0') < (List.length xs - y0) ∧ ((leV (.c (.hs .no tyScope xs)) (.c (.hs .no tyScope xs)) ∧ leV (.c (.raw ((Value.func (.func g) #[] caps.toArray)))) (.c (.raw ((Value.func (.func g) #[] caps.toArray)))) ∧ leV (.tp []) (.tp []) ∧ leV (.tp []) (.tp []) ∧ True ∧ True ∧ leV (.c (.hs .no tyScope xs)) (.c (.hs .no tyScope xs)) ∧ leV (.c (.int .i64 ((List.length xs : Nat) : Int))) (.c (.int .i64 ((List.length xs : Nat) : Int))) ∧ leV (.c (.int .i64 (IntKind.wrap .i64 (((y0 : Nat) : Int) + 1)))) (.c (.int .i64 ((y0' : Nat) : Int))) ∧ True ∧ True ∧ True ∧ True ∧ True ∧ True ∧ True ∧ True ∧ True ∧ True ∧ True) ∧ (True) ∧ true = true))))))))))))) else (True ∧ ((true = true ∧ leC (.int .i64 (-1)) (.int .i64 (idxL p xs))) ∧ true = true)))))))))) (by kernel_rfl) ?_
  simp only [SIA, eq_self]
  have hm : xs.length ≤ maxLen := hwf.1.1
  refine ⟨⟨0, ⟨Nat.zero_le _, allN_zero⟩, rfl⟩, fun k hk => ⟨fun hlt => ⟨by omega, fun hp => ?_, fun hp => ?_⟩, fun hge => ?_⟩⟩
  · have hk' : k < xs.length := by omega
    exact (idxL_nth (t := tyScope) hk' hk.2 hp).symm
  · exact ⟨k + 1, ⟨by omega, allN_step hk.2 hp⟩, by omega, wrapN (by omega)⟩
  · obtain rfl : k = xs.length := by omega
    exact (idxL_nth_none (t := tyScope) hk.2).symm
def e_slices_IndexFunc_i_Scope_i_Scope : HEntry Tryz.prog := ⟨203, tyScope, true, fun p xs => .int .i64 (idxL p xs), h_slices_IndexFunc_i_Scope_i_Scope, Tryz.call203⟩
set_option maxRecDepth 100000 in
set_option maxHeartbeats 400000 in
theorem h_slices_ContainsFunc_i_Scope_i_Scope (p : GScope → Bool) (xs : List GScope) (u : Value) (X : List Nat) (W : World) (v : Value) (hsz : ∀ b ∈ X, b < W.heap.size) (hgl : Glob W []) (hv : RepC X W [] [] (.hs .no tyScope xs) v) (hc : ClosOk X W Tryz.prog u true tyScope p) :
    Calls Tryz.prog 142 #[v, u] W (fun e W' => ∃ v E', e = .returned v ∧ Grow W [] W' E' ∧ RepM X W' E' [] ∧ RepV X W' E' [] (.c (.bool (List.any xs p))) v) := by
  obtain ⟨g, caps, rfl, ent, hc⟩ := hc
  refine hcalls_of (T := ⟨[], [e_slices_IndexFunc_i_Scope_i_Scope], [], [], some ⟨_, g, caps, rfl, [.s tyScope], fun x => .c (.bool (p x.1)), ent⟩, fun _ => [], 0, [], []⟩) (L := L0) (args := [.c (.hs .no tyScope xs), .c (.raw ((Value.func (.func g) #[] caps.toArray)))]) Tryz.func142 ⟨rfl, rfl⟩ (fun c hc' => ?_) hsz hgl ⟨v, _, rfl, hv, _, [], rfl, ⟨rfl, rfl⟩, rfl⟩ (fun hwf => ?_)
  · obtain rfl := Option.some.inj hc'
    intro W' E' x vs gr hr
    obtain ⟨va, r, rfl, h1, hnil⟩ := hr
    obtain rfl : r = [] := hnil
    exact hc W' E' x.1 va gr h1
  refine Eq.mpr (β := (True ∧ (True ∧ (True ∧ (((Value.func (.func g) #[] caps.toArray) = (Value.func (.func g) #[] caps.toArray) ∧ (∀ z0 : GScope, True) ∧ ∀ (_ : GScope → Bool) (_ : List GScope), true = true) ∧ (True ∧ (True ∧ ((true = true ∧ leC (.bool (geI (idxL (fun z0 : GScope => (p z0)) xs) 0)) (.bool (List.any xs p))) ∧ true = true)))))))) (by kernel_rfl) ?_
  simp only [SIA, eq_self]
  refine ⟨⟨fun _ => trivial, fun _ _ => trivial⟩, ?_⟩
  rw [Bool.eq_iff_iff, geI_true]
  exact idxL_ge xs
def e_slices_ContainsFunc_i_Scope_i_Scope : HEntry Tryz.prog := ⟨142, tyScope, true, fun p xs => .bool (List.any xs p), h_slices_ContainsFunc_i_Scope_i_Scope, Tryz.call142⟩
def L_slices_IndexFunc_i_Box_i_Box (p : GBox → Bool) (xs : List GBox) : Nat → List AV → Mem → LoopA
  | 2, tm, M => ⟨Nat, fun y => (setA tm [(4, .any), (5, .any), (8, .c (.int .i64 ((y : Nat) : Int))), (9, .any), (10, .any), (11, .any), (12, .any), (13, .any), (14, .any), (15, .any), (16, .any), (17, .any), (18, .any)], M), fun y => (y ≤ List.length xs ∧ ∀ j, j < y → p (nth_Box xs j) = false), fun y => (List.length xs - y)⟩
  | _, _, _ => ⟨Unit, fun _ => ([], []), fun _ => False, fun _ => 0⟩
set_option maxRecDepth 100000 in
set_option maxHeartbeats 400000 in
theorem h_slices_IndexFunc_i_Box_i_Box (p : GBox → Bool) (xs : List GBox) (u : Value) (X : List Nat) (W : World) (v : Value) (hsz : ∀ b ∈ X, b < W.heap.size) (hgl : Glob W []) (hv : RepC X W [] [] (.hs .no tyBox xs) v) (hc : ClosOk X W Tryz.prog u true tyBox p) :
    Calls Tryz.prog 136 #[v, u] W (fun e W' => ∃ v E', e = .returned v ∧ Grow W [] W' E' ∧ RepM X W' E' [] ∧ RepV X W' E' [] (.c (.int .i64 (idxL p xs))) v) := by
  obtain ⟨g, caps, rfl, ent, hc⟩ := hc
  refine hcalls_of (T := ⟨[], [], [], [], some ⟨_, g, caps, rfl, [.s tyBox], fun x => .c (.bool (p x.1)), ent⟩, fun _ => [], 0, [], []⟩) (L := (L_slices_IndexFunc_i_Box_i_Box p xs)) (args := [.c (.hs .no tyBox xs), .c (.raw ((Value.func (.func g) #[] caps.toArray)))]) Tryz.func136 ⟨rfl, rfl⟩ (fun c hc' => ?_) hsz hgl ⟨v, _, rfl, hv, _, [], rfl, ⟨rfl, rfl⟩, rfl⟩ (fun hwf => ?_)
  · obtain rfl := Option.some.inj hc'
    intro W' E' x vs gr hr
    obtain ⟨va, r, rfl, h1, hnil⟩ := hr
    obtain rfl : r = [] := hnil
    exact hc W' E' x.1 va gr h1
  refine Eq.mpr (β := (True ∧ (True ∧ (True ∧ (True ∧ ((∃ q : Nat, (q ≤ List.length xs ∧ ∀ j, j < q → p (nth_Box xs j) = false) ∧ ((leV (.c (.hs .no tyBox xs)) (.c (.hs .no tyBox xs)) ∧ leV (.c (.raw ((Value.func (.func g) #[] caps.toArray)))) (.c (.raw ((Value.func (.func g) #[] caps.toArray)))) ∧ leV (.tp []) (.tp []) ∧ leV (.tp []) (.tp []) ∧ True ∧ True ∧ leV (.c (.hs .no tyBox xs)) (.c (.hs .no tyBox xs)) ∧ leV (.c (.int .i64 ((List.length xs : Nat) : Int))) (.c (.int .i64 ((List.length xs : Nat) : Int))) ∧ leV (.c (.int .i64 0)) (.c (.int .i64 ((q : Nat) : Int))) ∧ True ∧ True ∧ True ∧ True ∧ True ∧ True ∧ True ∧ True ∧ True ∧ True ∧ True) ∧ (True) ∧ true = true)) ∧ ∀ y0 : Nat, (y0 ≤ List.length xs ∧ ∀ j, j < y0 → p (nth_Box xs j) = false) → (True ∧ (bif (ltI ((y0 : Nat) : Int) ((List.length xs : Nat) : Int)) then (True ∧ (True ∧ (True ∧ (True ∧ (True ∧ (((4 : Nat) = 4 ∧ (0 : Int) ≤ ((y0 : Nat) : Int) ∧ (((y0 : Nat) : Int) : Int) < ((List.length xs : Nat) : Int)) ∧ (True ∧ (((Value.func (.func g) #[] caps.toArray) = (Value.func (.func g) #[] caps.toArray) ∧ true = true) ∧ (bif (p (nth_Box xs (Int.toNat ((y0 : Nat) : Int)))) then (True ∧ (True ∧ ((true = true ∧ leC (.int .i64 ((y0 : Nat) : Int)) (.int .i64 (idxL p xs))) ∧ true = true))) else (True ∧ (True ∧ (∃ y0' : Nat, (y0' ≤ List.length xs ∧ ∀ j, j < y0' → p (nth_Box xs j) = false) ∧ (List.length xs - y0') < (List.length xs - y0) ∧ ((leV (.c (.hs .no tyBox xs)) (.c (.hs .no tyBox xs)) ∧ leV (.c (.raw ((Value.func (.func g) #[] caps.toArray)))) (.c (.raw ((Value.func (.func g) #[] caps.toArray)))) ∧ leV (.tp []) (.tp []) ∧ leV (.tp []) (.tp []) ∧ True ∧ True ∧ leV (.c (.hs .no tyBox xs)) (.c (.hs .no tyBox xs)) ∧ leV (.c (.int .i64 ((List.length xs : Nat) : Int))) (.c (.int .i64 ((List.length xs : Nat) : Int))) ∧ leV (.c (.int .i64 (IntKind.wrap .i64 (((y0 : Nat) : Int) + 1)))) (.c (.int .i64 ((y0' : Nat) : Int))) ∧ True ∧ True ∧ True ∧ True ∧ True ∧ True ∧ True ∧ True ∧ True ∧ True ∧ True) ∧ (True) ∧ true = true))))))))))))) else (True ∧ ((true = true ∧ leC (.int .i64 (-1)) (.int .i64 (idxL p xs))) ∧ true = true)))))))))) (by kernel_rfl) ?_
  simp only [SIA, eq_self]
  have hm : xs.length ≤ maxLen := hwf.1.1
  refine ⟨⟨0, ⟨Nat.zero_le _, allN_zero⟩, rfl⟩, fun k hk => ⟨fun hlt => ⟨by omega, fun hp => ?_, fun hp => ?_⟩, fun hge => ?_⟩⟩
  · have hk' : k < xs.length := by omega
    exact (idxL_nth (t := tyBox) hk' hk.2 hp).symm
  · exact ⟨k + 1, ⟨by omega, allN_step hk.2 hp⟩, by omega, wrapN (by omega)⟩
  · obtain rfl : k = xs.length := by omega
    exact (idxL_nth_none (t := tyBox) hk.2).symm
def e_slices_IndexFunc_i_Box_i_Box : HEntry Tryz.prog := ⟨136, tyBox, true, fun p xs => .int .i64 (idxL p xs), h_slices_IndexFunc_i_Box_i_Box, Tryz.call136⟩
def L_slices_IndexFunc_i_Msg_i_Msg (p : GMsg → Bool) (xs : List GMsg) : Nat → List AV → Mem → LoopA
  | 2, tm, M => ⟨Nat, fun y => (setA tm [(4, .any), (5, .any), (8, .c (.int .i64 ((y : Nat) : Int))), (9, .any), (10, .any), (11, .any), (12, .any), (13, .any), (14, .any), (15, .any), (16, .any), (17, .any), (18, .any)], M), fun y => (y ≤ List.length xs ∧ ∀ j, j < y → p (nth_Msg xs j) = false), fun y => (List.length xs - y)⟩
  | _, _, _ => ⟨Unit, fun _ => ([], []), fun _ => False, fun _ => 0⟩
set_option maxRecDepth 100000 in
set_option maxHeartbeats 400000 in
theorem h_slices_IndexFunc_i_Msg_i_Msg (p : GMsg → Bool) (xs : List GMsg) (u : Value) (X : List Nat) (W : World) (v : Value) (hsz : ∀ b ∈ X, b < W.heap.size) (hgl : Glob W []) (hv : RepC X W [] [] (.hs .no tyMsg xs) v) (hc : ClosOk X W Tryz.prog u true tyMsg p) :
    Calls Tryz.prog 297 #[v, u] W (fun e W' => ∃ v E', e = .returned v ∧ Grow W [] W' E' ∧ RepM X W' E' [] ∧ RepV X W' E' [] (.c (.int .i64 (idxL p xs))) v) := by
  obtain ⟨g, caps, rfl, ent, hc⟩ := hc
  refine hcalls_of (T := ⟨[], [], [], [], some ⟨_, g, caps, rfl, [.s tyMsg], fun x => .c (.bool (p x.1)), ent⟩, fun _ => [], 0, [], []⟩) (L := (L_slices_IndexFunc_i_Msg_i_Msg p xs)) (args := [.c (.hs .no tyMsg xs), .c (.raw ((Value.func (.func g) #[] caps.toArray)))]) Tryz.func297 ⟨rfl, rfl⟩ (fun c hc' => ?_) hsz hgl ⟨v, _, rfl, hv, _, [], rfl, ⟨rfl, rfl⟩, rfl⟩ (fun hwf => ?_)
  · obtain rfl := Option.some.inj hc'
    intro W' E' x vs gr hr
    obtain ⟨va, r, rfl, h1, hnil⟩ := hr
    obtain rfl : r = [] := hnil
    exact hc W' E' x.1 va gr h1
  refine Eq.mpr (β := (True ∧ (True ∧ (True ∧ (True ∧ ((∃ q : Nat, (q ≤ List.length xs ∧ ∀ j, j < q → p (nth_Msg xs j) = false) ∧ ((leV (.c (.hs .no tyMsg xs)) (.c (.hs .no tyMsg xs)) ∧ leV (.c (.raw ((Value.func (.func g) #[] caps.toArray)))) (.c (.raw ((Value.func (.func g) #[] caps.toArray)))) ∧ leV (.tp []) (.tp []) ∧ leV (.tp []) (.tp []) ∧ True ∧ True ∧ leV (.c (.hs .no tyMsg xs)) (.c (.hs .no tyMsg xs)) ∧ leV (.c (.int .i64 ((List.length xs : Nat) : Int))) (.c (.int .i64 ((List.length xs : Nat) : Int))) ∧ leV (.c (.int .i64 0)) (.c (.int .i64 ((q : Nat) : Int))) ∧ True ∧ True ∧ True ∧ True ∧ True ∧ True ∧ True ∧ True ∧ True ∧ True ∧ True) ∧ (True) ∧ true = true)) ∧ ∀ y0 : Nat, (y0 ≤ List.length xs ∧ ∀ j, j < y0 → p (nth_Msg xs j) = false) → (True ∧ (bif (ltI ((y0 : Nat) : Int) ((List.length xs : Nat) : Int)) then (True ∧ (True ∧ (True ∧ (True ∧ (True ∧ (((3 : Nat) = 3 ∧ (0 : Int) ≤ ((y0 : Nat) : Int) ∧ (((y0 : Nat) : Int) : Int) < ((List.length xs : Nat) : Int)) ∧ (True ∧ (((Value.func (.func g) #[] caps.toArray) = (Value.func (.func g) #[] caps.toArray) ∧ true = true) ∧ (bif (p (nth_Msg xs (Int.toNat ((y0 : Nat) : Int)))) then (True ∧ (True ∧ ((true = true ∧ leC (.int .i64 ((y0 : Nat) : Int)) (.int .i64 (idxL p xs))) ∧ true = true))) else (True ∧ (True ∧ (∃ y0' : Nat, (y0' ≤ List.length xs ∧ ∀ j, j < y0' → p (nth_Msg xs j) = false) ∧ (List.length xs - y0') < (List.length xs - y0) ∧ ((leV (.c (.hs .no tyMsg xs)) (.c (.hs .no tyMsg xs)) ∧ leV (.c (.raw ((Value.func (.func g) #[] caps.toArray)))) (.c (.raw ((Value.func (.func g) #[] caps.toArray)))) ∧ leV (.tp []) (.tp []) ∧ leV (.tp []) (.tp []) ∧ True ∧ True ∧ leV (.c (.hs .no tyMsg xs)) (.c (.hs .no tyMsg xs)) ∧ leV (.c (.int .i64 ((List.length xs : Nat) : Int))) (.c (.int .i64 ((List.length xs : Nat) : Int))) ∧ leV (.c (.int .i64 (IntKind.wrap .i64 (((y0 : Nat) : Int) + 1)))) (.c (.int .i64 ((y0' : Nat) : Int))) ∧ True ∧ True ∧ True ∧ True ∧ True ∧ True ∧ True ∧ True ∧ True ∧ True ∧ True) ∧ (True) ∧ true = true))))))))))))) else (True ∧ ((true = true ∧ leC (.int .i64 (-1)) (.int .i64 (idxL p xs))) ∧ true = true)))))))))) (by kernel_rfl) ?_
  simp only [SIA, eq_self]
  have hm : xs.length ≤ maxLen := hwf.1.1
  refine ⟨⟨0, ⟨Nat.zero_le _, allN_zero⟩, rfl⟩, fun k hk => ⟨fun hlt => ⟨by omega, fun hp => ?_, fun hp => ?_⟩, fun hge => ?_⟩⟩
  · have hk' : k < xs.length := by omega
    exact (idxL_nth (t := tyMsg) hk' hk.2 hp).symm
  · exact ⟨k + 1, ⟨by omega, allN_step hk.2 hp⟩, by omega, wrapN (by omega)⟩
  · obtain rfl : k = xs.length := by omega
    exact (idxL_nth_none (t := tyMsg) hk.2).symm
def e_slices_IndexFunc_i_Msg_i_Msg : HEntry Tryz.prog := ⟨297, tyMsg, true, fun p xs => .int .i64 (idxL p xs), h_slices_IndexFunc_i_Msg_i_Msg, Tryz.call297⟩
def L_slices_IndexFunc_string_string (p : ByteArray → Bool) (xs : List ByteArray) : Nat → List AV → Mem → LoopA
  | 2, tm, M => ⟨Nat, fun y => (setA tm [(4, .any), (5, .any), (8, .c (.int .i64 ((y : Nat) : Int))), (9, .any), (10, .any), (11, .any), (12, .any), (13, .any), (14, .any), (15, .any), (16, .any), (17, .any), (18, .any)], M), fun y => (y ≤ List.length xs ∧ ∀ j, j < y → p (nth_String xs j) = false), fun y => (List.length xs - y)⟩
  | _, _, _ => ⟨Unit, fun _ => ([], []), fun _ => False, fun _ => 0⟩
set_option maxRecDepth 100000 in
set_option maxHeartbeats 400000 in
theorem h_slices_IndexFunc_string_string (p : ByteArray → Bool) (xs : List ByteArray) (u : Value) (X : List Nat) (W : World) (v : Value) (hsz : ∀ b ∈ X, b < W.heap.size) (hgl : Glob W []) (hv : RepC X W [] [] (.hs .no tyStr xs) v) (hc : ClosOk X W Tryz.prog u false tyStr p) :
    Calls Tryz.prog 258 #[v, u] W (fun e W' => ∃ v E', e = .returned v ∧ Grow W [] W' E' ∧ RepM X W' E' [] ∧ RepV X W' E' [] (.c (.int .i64 (idxL p xs))) v) := by
  obtain ⟨g, caps, rfl, ent, hc⟩ := hc
  refine hcalls_of (T := ⟨[], [], [], [], some ⟨_, g, caps, rfl, [.v tyStr], fun x => .c (.bool (p x.1)), ent⟩, fun _ => [], 0, [], []⟩) (L := (L_slices_IndexFunc_string_string p xs)) (args := [.c (.hs .no tyStr xs), .c (.raw ((Value.func (.func g) #[] caps.toArray)))]) Tryz.func258 ⟨rfl, rfl⟩ (fun c hc' => ?_) hsz hgl ⟨v, _, rfl, hv, _, [], rfl, ⟨rfl, rfl⟩, rfl⟩ (fun hwf => ?_)
  · obtain rfl := Option.some.inj hc'
    intro W' E' x vs gr hr
    obtain ⟨va, r, rfl, h1, hnil⟩ := hr
    obtain rfl : r = [] := hnil
    exact hc W' E' x.1 va gr h1
  refine Eq.mpr (β := (True ∧ (True ∧ (True ∧ (True ∧ ((∃ q : Nat, (q ≤ List.length xs ∧ ∀ j, j < q → p (nth_String xs j) = false) ∧ ((leV (.c (.hs .no tyStr xs)) (.c (.hs .no tyStr xs)) ∧ leV (.c (.raw ((Value.func (.func g) #[] caps.toArray)))) (.c (.raw ((Value.func (.func g) #[] caps.toArray)))) ∧ leV (.tp []) (.tp []) ∧ leV (.tp []) (.tp []) ∧ True ∧ True ∧ leV (.c (.hs .no tyStr xs)) (.c (.hs .no tyStr xs)) ∧ leV (.c (.int .i64 ((List.length xs : Nat) : Int))) (.c (.int .i64 ((List.length xs : Nat) : Int))) ∧ leV (.c (.int .i64 0)) (.c (.int .i64 ((q : Nat) : Int))) ∧ True ∧ True ∧ True ∧ True ∧ True ∧ True ∧ True ∧ True ∧ True ∧ True ∧ True) ∧ (True) ∧ true = true)) ∧ ∀ y0 : Nat, (y0 ≤ List.length xs ∧ ∀ j, j < y0 → p (nth_String xs j) = false) → (True ∧ (bif (ltI ((y0 : Nat) : Int) ((List.length xs : Nat) : Int)) then (True ∧ (True ∧ (True ∧ (True ∧ (True ∧ (((1 : Nat) = 1 ∧ (0 : Int) ≤ ((y0 : Nat) : Int) ∧ (((y0 : Nat) : Int) : Int) < ((List.length xs : Nat) : Int)) ∧ (True ∧ (((Value.func (.func g) #[] caps.toArray) = (Value.func (.func g) #[] caps.toArray) ∧ true = true) ∧ (bif (p (nth_String xs (Int.toNat ((y0 : Nat) : Int)))) then (True ∧ (True ∧ ((true = true ∧ leC (.int .i64 ((y0 : Nat) : Int)) (.int .i64 (idxL p xs))) ∧ true = true))) else (True ∧ (True ∧ (∃ y0' : Nat, (y0' ≤ List.length xs ∧ ∀ j, j < y0' → p (nth_String xs j) = false) ∧ (List.length xs - y0') < (List.length xs - y0) ∧ ((leV (.c (.hs .no tyStr xs)) (.c (.hs .no tyStr xs)) ∧ leV (.c (.raw ((Value.func (.func g) #[] caps.toArray)))) (.c (.raw ((Value.func (.func g) #[] caps.toArray)))) ∧ leV (.tp []) (.tp []) ∧ leV (.tp []) (.tp []) ∧ True ∧ True ∧ leV (.c (.hs .no tyStr xs)) (.c (.hs .no tyStr xs)) ∧ leV (.c (.int .i64 ((List.length xs : Nat) : Int))) (.c (.int .i64 ((List.length xs : Nat) : Int))) ∧ leV (.c (.int .i64 (IntKind.wrap .i64 (((y0 : Nat) : Int) + 1)))) (.c (.int .i64 ((y0' : Nat) : Int))) ∧ True ∧ True ∧ True ∧ True ∧ True ∧ True ∧ True ∧ True ∧ True ∧ True ∧ True) ∧ (True) ∧ true = true))))))))))))) else (True ∧ ((true = true ∧ leC (.int .i64 (-1)) (.int .i64 (idxL p xs))) ∧ true = true)))))))))) (by kernel_rfl) ?_
  simp only [SIA, eq_self]
  have hm : xs.length ≤ maxLen := hwf.1.1
  refine ⟨⟨0, ⟨Nat.zero_le _, allN_zero⟩, rfl⟩, fun k hk => ⟨fun hlt => ⟨by omega, fun hp => ?_, fun hp => ?_⟩, fun hge => ?_⟩⟩
  · have hk' : k < xs.length := by omega
    exact (idxL_nth (t := tyStr) hk' hk.2 hp).symm
  · exact ⟨k + 1, ⟨by omega, allN_step hk.2 hp⟩, by omega, wrapN (by omega)⟩
  · obtain rfl : k = xs.length := by omega
    exact (idxL_nth_none (t := tyStr) hk.2).symm
def e_slices_IndexFunc_string_string : HEntry Tryz.prog := ⟨258, tyStr, false, fun p xs => .int .i64 (idxL p xs), h_slices_IndexFunc_string_string, Tryz.call258⟩
set_option maxRecDepth 100000 in
set_option maxHeartbeats 400000 in
theorem h_slices_ContainsFunc_string_string (p : ByteArray → Bool) (xs : List ByteArray) (u : Value) (X : List Nat) (W : World) (v : Value) (hsz : ∀ b ∈ X, b < W.heap.size) (hgl : Glob W []) (hv : RepC X W [] [] (.hs .no tyStr xs) v) (hc : ClosOk X W Tryz.prog u false tyStr p) :
    Calls Tryz.prog 205 #[v, u] W (fun e W' => ∃ v E', e = .returned v ∧ Grow W [] W' E' ∧ RepM X W' E' [] ∧ RepV X W' E' [] (.c (.bool (List.any xs p))) v) := by
  obtain ⟨g, caps, rfl, ent, hc⟩ := hc
  refine hcalls_of (T := ⟨[], [e_slices_IndexFunc_string_string], [], [], some ⟨_, g, caps, rfl, [.v tyStr], fun x => .c (.bool (p x.1)), ent⟩, fun _ => [], 0, [], []⟩) (L := L0) (args := [.c (.hs .no tyStr xs), .c (.raw ((Value.func (.func g) #[] caps.toArray)))]) Tryz.func205 ⟨rfl, rfl⟩ (fun c hc' => ?_) hsz hgl ⟨v, _, rfl, hv, _, [], rfl, ⟨rfl, rfl⟩, rfl⟩ (fun hwf => ?_)
  · obtain rfl := Option.some.inj hc'
    intro W' E' x vs gr hr
    obtain ⟨va, r, rfl, h1, hnil⟩ := hr
    obtain rfl : r = [] := hnil
    exact hc W' E' x.1 va gr h1
  refine Eq.mpr (β := (True ∧ (True ∧ (True ∧ (((Value.func (.func g) #[] caps.toArray) = (Value.func (.func g) #[] caps.toArray) ∧ (∀ z0 : ByteArray, True) ∧ ∀ (_ : ByteArray → Bool) (_ : List ByteArray), true = true) ∧ (True ∧ (True ∧ ((true = true ∧ leC (.bool (geI (idxL (fun z0 : ByteArray => (p z0)) xs) 0)) (.bool (List.any xs p))) ∧ true = true)))))))) (by kernel_rfl) ?_
  simp only [SIA, eq_self]
  refine ⟨⟨fun _ => trivial, fun _ _ => trivial⟩, ?_⟩
  rw [Bool.eq_iff_iff, geI_true]
  exact idxL_ge xs
def e_slices_ContainsFunc_string_string : HEntry Tryz.prog := ⟨205, tyStr, false, fun p xs => .bool (List.any xs p), h_slices_ContainsFunc_string_string, Tryz.call205⟩
def L_slices_Equal_i_Seen_i_Seen (xs : List GSpan) (ys : List GSpan) : Nat → List AV → Mem → LoopA
  | 4, tm, M => ⟨Nat, fun y => (setA tm [(4, .any), (5, .any), (13, .c (.int .i64 ((y : Nat) : Int))), (14, .any), (15, .any), (16, .any), (17, .any), (18, .any), (19, .any), (20, .any), (21, .any), (22, .any), (23, .any), (24, .any), (25, .any)], M), fun y => (y ≤ List.length xs ∧ ∀ j, j < y → nth_Span xs j = nth_Span ys j), fun y => (List.length xs - y)⟩
  | _, _, _ => ⟨Unit, fun _ => ([], []), fun _ => False, fun _ => 0⟩
set_option maxRecDepth 100000 in
set_option maxHeartbeats 400000 in
theorem b_slices_Equal_i_Seen_i_Seen (xs : List GSpan) (ys : List GSpan) : BCalls Tryz.prog 138 [.c (.hs .no tySpan xs), .c (.hs .no tySpan ys)] (.c (.bool (eqT_LSpan xs ys))) [] := by
  refine bcalls_of (T := ⟨[], [], [], [], none, fun _ => [], 0, [], []⟩) (L := (L_slices_Equal_i_Seen_i_Seen xs ys)) Tryz.func138 ⟨⟨rfl, rfl⟩, rfl⟩ (fun hwf => ?_)
  refine Eq.mpr (β := (T6 (bif (neI ((List.length xs : Nat) : Int) ((List.length ys : Nat) : Int)) then (True ∧ ((true = true ∧ leC (.bool false) (.bool (eqT_LSpan xs ys))) ∧ true = true)) else (T3 ((∃ q : Nat, (q ≤ List.length xs ∧ ∀ j, j < q → nth_Span xs j = nth_Span ys j) ∧ ((leV (.c (.hs .no tySpan xs)) (.c (.hs .no tySpan xs)) ∧ leV (.c (.hs .no tySpan ys)) (.c (.hs .no tySpan ys)) ∧ leV (.tp []) (.tp []) ∧ leV (.tp []) (.tp []) ∧ True ∧ True ∧ leV (.c (.hs .no tySpan xs)) (.c (.hs .no tySpan xs)) ∧ leV (.c (.int .i64 ((List.length xs : Nat) : Int))) (.c (.int .i64 ((List.length xs : Nat) : Int))) ∧ leV (.c (.hs .no tySpan ys)) (.c (.hs .no tySpan ys)) ∧ leV (.c (.int .i64 ((List.length ys : Nat) : Int))) (.c (.int .i64 ((List.length ys : Nat) : Int))) ∧ leV (.c (.bool false)) (.c (.bool false)) ∧ leV (.c (.hs .no tySpan xs)) (.c (.hs .no tySpan xs)) ∧ leV (.c (.int .i64 ((List.length xs : Nat) : Int))) (.c (.int .i64 ((List.length xs : Nat) : Int))) ∧ leV (.c (.int .i64 0)) (.c (.int .i64 ((q : Nat) : Int))) ∧ True ∧ True ∧ True ∧ True ∧ True ∧ True ∧ True ∧ True ∧ True ∧ True ∧ True ∧ True ∧ True) ∧ (True) ∧ true = true)) ∧ ∀ y0 : Nat, (y0 ≤ List.length xs ∧ ∀ j, j < y0 → nth_Span xs j = nth_Span ys j) → (True ∧ (bif (ltI ((y0 : Nat) : Int) ((List.length xs : Nat) : Int)) then (T2 ((true = true ∧ true = true) ∧ (T2 (((2 : Nat) = 2 ∧ (0 : Int) ≤ ((y0 : Nat) : Int) ∧ (((y0 : Nat) : Int) : Int) < ((List.length xs : Nat) : Int)) ∧ (T3 (((2 : Nat) = 2 ∧ (0 : Int) ≤ ((y0 : Nat) : Int) ∧ (((y0 : Nat) : Int) : Int) < ((List.length ys : Nat) : Int)) ∧ (True ∧ (true = true ∧ (bif (!(eqC_Span (nth_Span xs (Int.toNat ((y0 : Nat) : Int))) (nth_Span ys (Int.toNat ((y0 : Nat) : Int))))) then (True ∧ ((true = true ∧ leC (.bool false) (.bool (eqT_LSpan xs ys))) ∧ true = true)) else (T2 (∃ y0' : Nat, (y0' ≤ List.length xs ∧ ∀ j, j < y0' → nth_Span xs j = nth_Span ys j) ∧ (List.length xs - y0') < (List.length xs - y0) ∧ ((leV (.c (.hs .no tySpan xs)) (.c (.hs .no tySpan xs)) ∧ leV (.c (.hs .no tySpan ys)) (.c (.hs .no tySpan ys)) ∧ leV (.tp []) (.tp []) ∧ leV (.tp []) (.tp []) ∧ True ∧ True ∧ leV (.c (.hs .no tySpan xs)) (.c (.hs .no tySpan xs)) ∧ leV (.c (.int .i64 ((List.length xs : Nat) : Int))) (.c (.int .i64 ((List.length xs : Nat) : Int))) ∧ leV (.c (.hs .no tySpan ys)) (.c (.hs .no tySpan ys)) ∧ leV (.c (.int .i64 ((List.length ys : Nat) : Int))) (.c (.int .i64 ((List.length ys : Nat) : Int))) ∧ leV (.c (.bool false)) (.c (.bool false)) ∧ leV (.c (.hs .no tySpan xs)) (.c (.hs .no tySpan xs)) ∧ leV (.c (.int .i64 ((List.length xs : Nat) : Int))) (.c (.int .i64 ((List.length xs : Nat) : Int))) ∧ leV (.c (.int .i64 (IntKind.wrap .i64 (((y0 : Nat) : Int) + 1)))) (.c (.int .i64 ((y0' : Nat) : Int))) ∧ True ∧ True ∧ True ∧ True ∧ True ∧ True ∧ True ∧ True ∧ True ∧ True ∧ True ∧ True ∧ True) ∧ (True) ∧ true = true)))))))))))) else (True ∧ ((true = true ∧ leC (.bool true) (.bool (eqT_LSpan xs ys))) ∧ true = true))))))))) (by kernel_rfl) ?_
  unfold T2 T3 T6
  simp only [SIA, eq_self]
  have hm : xs.length ≤ maxLen := hwf.1.1
  refine ⟨fun hl => ?_, fun hl => ⟨⟨0, ⟨Nat.zero_le _, allN_zero⟩, rfl⟩, fun k hk => ⟨fun hlt => ⟨by omega, by omega, fun hp => ?_, fun hp => ?_⟩, fun hge => ?_⟩⟩⟩
  · exact (eqT_LSpan_false.2 (fun e => hl (by rw [e]))).symm
  · exact (eqT_LSpan_false.2 (fun e => ((eqC_Span_false.1 hp)) (by rw [e]))).symm
  · exact ⟨k + 1, ⟨by omega, allN_step hk.2 (eqC_Span_true.1 hp)⟩, by omega, wrapN (by omega)⟩
  · obtain rfl : k = xs.length := by omega
    have hl' : xs.length = ys.length := by omega
    exact (eqT_LSpan_true.2 (eq_of_nth (t := tySpan) hl' hk.2)).symm
def e_slices_Equal_i_Seen_i_Seen : Entry Tryz.prog := ⟨138, [.v (.list tySpan), .v (.list tySpan)], fun x => True, fun x => .c (.bool (eqT_LSpan x.1 x.2.1)), fun _ => [], fun x hx => b_slices_Equal_i_Seen_i_Seen x.1 x.2.1, Tryz.call138⟩
end Go.Proofs.YtigebfhekmjhmaaGreat
