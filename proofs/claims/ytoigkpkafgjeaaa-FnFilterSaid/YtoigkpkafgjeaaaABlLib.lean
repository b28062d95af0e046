/-
  The library's functions on slices.
  No condition but what the arguments' cells hold. Printed by vcgen.py.
-/
import Derived.Test.YtoigkpkafgjeaaaABmTy
set_option linter.unusedSimpArgs false
set_option linter.unusedVariables false
set_option maxRecDepth 100000
set_option maxHeartbeats 4000000
namespace Go.Proofs.Ytoigkpkafgjeaaa
open Go.ChangeShapes Go.WideShapes Go.ChangeAt Go.RowKit Go.Joins Go.Deep
open GoRep (rep bulk)

def L_slices_IndexFunc_i_Scope_i_Scope (p : GScope → Bool) (xs : List GScope) : Nat → List AV → Mem → LoopA
  | 2, tm, M => ⟨Nat, fun y => (anyR (setA tm [(4, .any), (5, .any), (8, .c (.int .i64 ((y : Nat) : Int)))]) 9 10, M), fun y => (y ≤ List.length xs ∧ ∀ j, j < y → p (nth_Scope xs j) = false), fun y => (List.length xs - y)⟩
  | _, _, _ => ⟨Unit, fun _ => ([], []), fun _ => False, fun _ => 0⟩
theorem h_slices_IndexFunc_i_Scope_i_Scope (p : GScope → Bool) (xs : List GScope) (u : Value) (X : List Nat) (W : World) (v : Value) (hsz : ∀ b ∈ X, b < W.heap.size) (hgl : Glob W []) (hv : RepC X W [] [] (.hs .no tyScope xs) v) (hc : ClosOk X W Try.prog u true tyScope p) :
    Calls Try.prog 81 #[v, u] W (fun e W' => ∃ v E', e = .returned v ∧ Grow W [] W' E' ∧ RepM X W' E' [] ∧ RepV X W' E' [] (.c (.int .i64 (idxL p xs))) v) := by
  obtain ⟨g, caps, rfl, ent, hc⟩ := hc
  refine hcalls_of (T := ⟨[], [], [], [], some ⟨_, g, caps, rfl, [.s tyScope], fun x => .c (.bool (p x.1)), ent⟩, fun _ => [], 0, [], []⟩) (L := (L_slices_IndexFunc_i_Scope_i_Scope p xs)) (args := [.c (.hs .no tyScope xs), .c (.raw ((Value.func (.func g) #[] caps.toArray)))]) Try.func81 ⟨rfl, rfl⟩ (fun c hc' => ?_) hsz hgl ⟨v, _, rfl, hv, _, [], rfl, ⟨rfl, rfl⟩, rfl⟩ (fun hwf => ?_)
  · obtain rfl := Option.some.inj hc'
    intro W' E' x vs gr hr
    obtain ⟨va, r, rfl, h1, hnil⟩ := hr
    obtain rfl : r = [] := hnil
    exact hc W' E' x.1 va gr h1
  refine Eq.mpr (β := (True ∧ (True ∧ (True ∧ (True ∧ ((∃ q : Nat, (q ≤ List.length xs ∧ ∀ j, j < q → p (nth_Scope xs j) = false) ∧ ((lxs [.c (.hs .no tyScope xs), .c (.raw ((Value.func (.func g) #[] caps.toArray))), .tp [], .tp []] (True ∧ True ∧ lxs [.c (.hs .no tyScope xs), .c (.int .i64 ((List.length xs : Nat) : Int))] (leV (.c (.int .i64 0)) (.c (.int .i64 ((q : Nat) : Int))) ∧ TN 10 True))) ∧ (True) ∧ true = true)) ∧ ∀ y0 : Nat, (y0 ≤ List.length xs ∧ ∀ j, j < y0 → p (nth_Scope xs j) = false) → (True ∧ (bif (ltI ((y0 : Nat) : Int) ((List.length xs : Nat) : Int)) then (True ∧ (True ∧ (True ∧ (True ∧ (True ∧ (((3 : Nat) = 3 ∧ (0 : Int) ≤ ((y0 : Nat) : Int) ∧ (((y0 : Nat) : Int) : Int) < ((List.length xs : Nat) : Int)) ∧ (True ∧ (((Value.func (.func g) #[] caps.toArray) = (Value.func (.func g) #[] caps.toArray) ∧ true = true) ∧ (bif (p (nth_Scope xs (Int.toNat ((y0 : Nat) : Int)))) then (True ∧ (True ∧ ((true = true ∧ leC (.int .i64 ((y0 : Nat) : Int)) (.int .i64 (idxL p xs))) ∧ true = true))) else (True ∧ (True ∧ (∃ y0' : Nat, (y0' ≤ List.length xs ∧ ∀ j, j < y0' → p (nth_Scope xs j) = false) ∧ (List.length xs - y0') < (List.length xs - y0) ∧ ((lxs [.c (.hs .no tyScope xs), .c (.raw ((Value.func (.func g) #[] caps.toArray))), .tp [], .tp []] (True ∧ True ∧ lxs [.c (.hs .no tyScope xs), .c (.int .i64 ((List.length xs : Nat) : Int))] (leV (.c (.int .i64 (IntKind.wrap .i64 (((y0 : Nat) : Int) + 1)))) (.c (.int .i64 ((y0' : Nat) : Int))) ∧ TN 10 True))) ∧ (True) ∧ true = true))))))))))))) else (True ∧ ((true = true ∧ leC (.int .i64 (-1)) (.int .i64 (idxL p xs))) ∧ true = true)))))))))) (by kernel_rfl) ?_
  simp only [SIA, eq_self]
  have hm : xs.length ≤ maxLen := hwf.1.1
  refine ⟨⟨0, ⟨Nat.zero_le _, allN_zero⟩, rfl⟩, fun k hk => ⟨fun hlt => ⟨by omega, fun hp => ?_, fun hp => ?_⟩, fun hge => ?_⟩⟩
  · have hk' : k < xs.length := by omega
    exact (idxL_nth (t := tyScope) hk' hk.2 hp).symm
  · exact ⟨k + 1, ⟨by omega, allN_step hk.2 hp⟩, by omega, wrapN (by omega)⟩
  · obtain rfl : k = xs.length := by omega
    exact (idxL_nth_none (t := tyScope) hk.2).symm
def e_slices_IndexFunc_i_Scope_i_Scope : HEntry Try.prog := ⟨81, tyScope, true, fun p xs => .int .i64 (idxL p xs), h_slices_IndexFunc_i_Scope_i_Scope, Try.call81⟩
theorem h_slices_ContainsFunc_i_Scope_i_Scope (p : GScope → Bool) (xs : List GScope) (u : Value) (X : List Nat) (W : World) (v : Value) (hsz : ∀ b ∈ X, b < W.heap.size) (hgl : Glob W []) (hv : RepC X W [] [] (.hs .no tyScope xs) v) (hc : ClosOk X W Try.prog u true tyScope p) :
    Calls Try.prog 63 #[v, u] W (fun e W' => ∃ v E', e = .returned v ∧ Grow W [] W' E' ∧ RepM X W' E' [] ∧ RepV X W' E' [] (.c (.bool (List.any xs p))) v) := by
  obtain ⟨g, caps, rfl, ent, hc⟩ := hc
  refine hcalls_of (T := ⟨[], [e_slices_IndexFunc_i_Scope_i_Scope], [], [], some ⟨_, g, caps, rfl, [.s tyScope], fun x => .c (.bool (p x.1)), ent⟩, fun _ => [], 0, [], []⟩) (L := L0) (args := [.c (.hs .no tyScope xs), .c (.raw ((Value.func (.func g) #[] caps.toArray)))]) Try.func63 ⟨rfl, rfl⟩ (fun c hc' => ?_) hsz hgl ⟨v, _, rfl, hv, _, [], rfl, ⟨rfl, rfl⟩, rfl⟩ (fun hwf => ?_)
  · obtain rfl := Option.some.inj hc'
    intro W' E' x vs gr hr
    obtain ⟨va, r, rfl, h1, hnil⟩ := hr
    obtain rfl : r = [] := hnil
    exact hc W' E' x.1 va gr h1
  refine Eq.mpr (β := (True ∧ (True ∧ (True ∧ (((Value.func (.func g) #[] caps.toArray) = (Value.func (.func g) #[] caps.toArray) ∧ (∀ z0 : GScope, True) ∧ ∀ (_ : GScope → Bool) (_ : List GScope), true = true) ∧ (True ∧ (True ∧ ((true = true ∧ leC (.bool (geI (idxL (fun z0 : GScope => (p z0)) xs) 0)) (.bool (List.any xs p))) ∧ true = true)))))))) (by kernel_rfl) ?_
  simp only [SIA, eq_self]
  refine ⟨⟨fun _ => trivial, fun _ _ => trivial⟩, ?_⟩
  rw [Bool.eq_iff_iff, geI_true]
  exact idxL_ge xs
def e_slices_ContainsFunc_i_Scope_i_Scope : HEntry Try.prog := ⟨63, tyScope, true, fun p xs => .bool (List.any xs p), h_slices_ContainsFunc_i_Scope_i_Scope, Try.call63⟩
def L_slices_IndexFunc_string_string (p : ByteArray → Bool) (xs : List ByteArray) : Nat → List AV → Mem → LoopA
  | 2, tm, M => ⟨Nat, fun y => (anyR (setA tm [(4, .any), (5, .any), (8, .c (.int .i64 ((y : Nat) : Int)))]) 9 10, M), fun y => (y ≤ List.length xs ∧ ∀ j, j < y → p (nth_String xs j) = false), fun y => (List.length xs - y)⟩
  | _, _, _ => ⟨Unit, fun _ => ([], []), fun _ => False, fun _ => 0⟩
theorem h_slices_IndexFunc_string_string (p : ByteArray → Bool) (xs : List ByteArray) (u : Value) (X : List Nat) (W : World) (v : Value) (hsz : ∀ b ∈ X, b < W.heap.size) (hgl : Glob W []) (hv : RepC X W [] [] (.hs .no tyStr xs) v) (hc : ClosOk X W Try.prog u false tyStr p) :
    Calls Try.prog 66 #[v, u] W (fun e W' => ∃ v E', e = .returned v ∧ Grow W [] W' E' ∧ RepM X W' E' [] ∧ RepV X W' E' [] (.c (.int .i64 (idxL p xs))) v) := by
  obtain ⟨g, caps, rfl, ent, hc⟩ := hc
  refine hcalls_of (T := ⟨[], [], [], [], some ⟨_, g, caps, rfl, [.v tyStr], fun x => .c (.bool (p x.1)), ent⟩, fun _ => [], 0, [], []⟩) (L := (L_slices_IndexFunc_string_string p xs)) (args := [.c (.hs .no tyStr xs), .c (.raw ((Value.func (.func g) #[] caps.toArray)))]) Try.func66 ⟨rfl, rfl⟩ (fun c hc' => ?_) hsz hgl ⟨v, _, rfl, hv, _, [], rfl, ⟨rfl, rfl⟩, rfl⟩ (fun hwf => ?_)
  · obtain rfl := Option.some.inj hc'
    intro W' E' x vs gr hr
    obtain ⟨va, r, rfl, h1, hnil⟩ := hr
    obtain rfl : r = [] := hnil
    exact hc W' E' x.1 va gr h1
  refine Eq.mpr (β := (True ∧ (True ∧ (True ∧ (True ∧ ((∃ q : Nat, (q ≤ List.length xs ∧ ∀ j, j < q → p (nth_String xs j) = false) ∧ ((lxs [.c (.hs .no tyStr xs), .c (.raw ((Value.func (.func g) #[] caps.toArray))), .tp [], .tp []] (True ∧ True ∧ lxs [.c (.hs .no tyStr xs), .c (.int .i64 ((List.length xs : Nat) : Int))] (leV (.c (.int .i64 0)) (.c (.int .i64 ((q : Nat) : Int))) ∧ TN 10 True))) ∧ (True) ∧ true = true)) ∧ ∀ y0 : Nat, (y0 ≤ List.length xs ∧ ∀ j, j < y0 → p (nth_String xs j) = false) → (True ∧ (bif (ltI ((y0 : Nat) : Int) ((List.length xs : Nat) : Int)) then (True ∧ (True ∧ (True ∧ (True ∧ (True ∧ (((1 : Nat) = 1 ∧ (0 : Int) ≤ ((y0 : Nat) : Int) ∧ (((y0 : Nat) : Int) : Int) < ((List.length xs : Nat) : Int)) ∧ (True ∧ (((Value.func (.func g) #[] caps.toArray) = (Value.func (.func g) #[] caps.toArray) ∧ true = true) ∧ (bif (p (nth_String xs (Int.toNat ((y0 : Nat) : Int)))) then (True ∧ (True ∧ ((true = true ∧ leC (.int .i64 ((y0 : Nat) : Int)) (.int .i64 (idxL p xs))) ∧ true = true))) else (True ∧ (True ∧ (∃ y0' : Nat, (y0' ≤ List.length xs ∧ ∀ j, j < y0' → p (nth_String xs j) = false) ∧ (List.length xs - y0') < (List.length xs - y0) ∧ ((lxs [.c (.hs .no tyStr xs), .c (.raw ((Value.func (.func g) #[] caps.toArray))), .tp [], .tp []] (True ∧ True ∧ lxs [.c (.hs .no tyStr xs), .c (.int .i64 ((List.length xs : Nat) : Int))] (leV (.c (.int .i64 (IntKind.wrap .i64 (((y0 : Nat) : Int) + 1)))) (.c (.int .i64 ((y0' : Nat) : Int))) ∧ TN 10 True))) ∧ (True) ∧ true = true))))))))))))) else (True ∧ ((true = true ∧ leC (.int .i64 (-1)) (.int .i64 (idxL p xs))) ∧ true = true)))))))))) (by kernel_rfl) ?_
  simp only [SIA, eq_self]
  have hm : xs.length ≤ maxLen := hwf.1.1
  refine ⟨⟨0, ⟨Nat.zero_le _, allN_zero⟩, rfl⟩, fun k hk => ⟨fun hlt => ⟨by omega, fun hp => ?_, fun hp => ?_⟩, fun hge => ?_⟩⟩
  · have hk' : k < xs.length := by omega
    exact (idxL_nth (t := tyStr) hk' hk.2 hp).symm
  · exact ⟨k + 1, ⟨by omega, allN_step hk.2 hp⟩, by omega, wrapN (by omega)⟩
  · obtain rfl : k = xs.length := by omega
    exact (idxL_nth_none (t := tyStr) hk.2).symm
def e_slices_IndexFunc_string_string : HEntry Try.prog := ⟨66, tyStr, false, fun p xs => .int .i64 (idxL p xs), h_slices_IndexFunc_string_string, Try.call66⟩
def L_slices_Equal_string_string (xs : List ByteArray) (ys : List ByteArray) : Nat → List AV → Mem → LoopA
  | 4, tm, M => ⟨Nat, fun y => (anyR (setA tm [(4, .any), (5, .any), (13, .c (.int .i64 ((y : Nat) : Int)))]) 14 12, M), fun y => (y ≤ List.length xs ∧ ∀ j, j < y → nth_String xs j = nth_String ys j), fun y => (List.length xs - y)⟩
  | _, _, _ => ⟨Unit, fun _ => ([], []), fun _ => False, fun _ => 0⟩
theorem b_slices_Equal_string_string (xs : List ByteArray) (ys : List ByteArray) : BCalls Try.prog 56 [.c (.hs .no tyStr xs), .c (.hs .no tyStr ys)] (.c (.bool (eqT_LString xs ys))) [] := by
  refine bc0 [] [] [] [] (L_slices_Equal_string_string xs ys) Try.func56 (fun hwf => ?_)
  refine Eq.mpr (β := (T6 (bif (neI ((List.length xs : Nat) : Int) ((List.length ys : Nat) : Int)) then (True ∧ (rB false (eqT_LString xs ys))) else (T3 ((∃ q : Nat, (q ≤ List.length xs ∧ ∀ j, j < q → nth_String xs j = nth_String ys j) ∧ ((lxs [.c (.hs .no tyStr xs), .c (.hs .no tyStr ys), .tp [], .tp []] (True ∧ True ∧ lxs [.c (.hs .no tyStr xs), .c (.int .i64 ((List.length xs : Nat) : Int)), .c (.hs .no tyStr ys), .c (.int .i64 ((List.length ys : Nat) : Int)), .c (.bool false), .c (.hs .no tyStr xs), .c (.int .i64 ((List.length xs : Nat) : Int))] (leV (.c (.int .i64 0)) (.c (.int .i64 ((q : Nat) : Int))) ∧ TN 12 True))) ∧ (True) ∧ true = true)) ∧ ∀ y0 : Nat, (y0 ≤ List.length xs ∧ ∀ j, j < y0 → nth_String xs j = nth_String ys j) → (True ∧ (bif (ltI ((y0 : Nat) : Int) ((List.length xs : Nat) : Int)) then (T2 ((true = true ∧ true = true) ∧ (T2 (((1 : Nat) = 1 ∧ (0 : Int) ≤ ((y0 : Nat) : Int) ∧ (((y0 : Nat) : Int) : Int) < ((List.length xs : Nat) : Int)) ∧ (T3 (((1 : Nat) = 1 ∧ (0 : Int) ≤ ((y0 : Nat) : Int) ∧ (((y0 : Nat) : Int) : Int) < ((List.length ys : Nat) : Int)) ∧ (T2 (bif (!eqS (nth_String xs (Int.toNat ((y0 : Nat) : Int))) (nth_String ys (Int.toNat ((y0 : Nat) : Int)))) then (True ∧ (rB false (eqT_LString xs ys))) else (T2 (∃ y0' : Nat, (y0' ≤ List.length xs ∧ ∀ j, j < y0' → nth_String xs j = nth_String ys j) ∧ (List.length xs - y0') < (List.length xs - y0) ∧ ((lxs [.c (.hs .no tyStr xs), .c (.hs .no tyStr ys), .tp [], .tp []] (True ∧ True ∧ lxs [.c (.hs .no tyStr xs), .c (.int .i64 ((List.length xs : Nat) : Int)), .c (.hs .no tyStr ys), .c (.int .i64 ((List.length ys : Nat) : Int)), .c (.bool false), .c (.hs .no tyStr xs), .c (.int .i64 ((List.length xs : Nat) : Int))] (leV (.c (.int .i64 (IntKind.wrap .i64 (((y0 : Nat) : Int) + 1)))) (.c (.int .i64 ((y0' : Nat) : Int))) ∧ TN 12 True))) ∧ (True) ∧ true = true))))))))))) else (True ∧ (rB true (eqT_LString xs ys)))))))))) (by kernel_rfl) ?_
  unfold T2 T3 T6
  simp only [SIA, eq_self]
  have hm : xs.length ≤ maxLen := hwf.1.1
  refine ⟨fun hl => ?_, fun hl => ⟨⟨0, ⟨Nat.zero_le _, allN_zero⟩, rfl⟩, fun k hk => ⟨fun hlt => ⟨by omega, by omega, fun hp => ?_, fun hp => ?_⟩, fun hge => ?_⟩⟩⟩
  · exact (eqT_LString_false.2 (fun e => hl (by rw [e]))).symm
  · exact (eqT_LString_false.2 (fun e => (hp) (by rw [e]))).symm
  · exact ⟨k + 1, ⟨by omega, allN_step hk.2 hp⟩, by omega, wrapN (by omega)⟩
  · obtain rfl : k = xs.length := by omega
    have hl' : xs.length = ys.length := by omega
    exact (eqT_LString_true.2 (eq_of_nth (t := tyStr) hl' hk.2)).symm
def e_slices_Equal_string_string : Entry Try.prog := ⟨56, [.v (.list tyStr), .v (.list tyStr)], fun x => True, fun x => .c (.bool (eqT_LString x.1 x.2.1)), fun _ => [], fun x hx => b_slices_Equal_string_string x.1 x.2.1, Try.call56⟩
def L_slices_EqualFunc_i_Scope_i_Scope_i_Scope_i_Scope (p : GScope → GScope → Bool) (xs ys : List GScope) : Nat → List AV → Mem → LoopA
  | 4, tm, M => ⟨Nat, fun y => (anyR (anyR (setA tm [(17, .c (.int .i64 ((y : Nat) : Int)))]) 6 4) 18 14, M), fun y => (y ≤ List.length xs ∧ ∀ j, j < y → p (nth_Scope xs j) (nth_Scope ys j) = true), fun y => (List.length xs - y)⟩
  | _, _, _ => ⟨Unit, fun _ => ([], []), fun _ => False, fun _ => 0⟩
theorem h_slices_EqualFunc_i_Scope_i_Scope_i_Scope_i_Scope (p : GScope → GScope → Bool) (xs ys : List GScope) (u : Value) (X : List Nat) (W : World) (v : Value) (v2 : Value) (hsz : ∀ b ∈ X, b < W.heap.size) (hgl : Glob W []) (hv : RepC X W [] [] (.hs .no tyScope xs) v) (hv2 : RepC X W [] [] (.hs .no tyScope ys) v2) (hc : ClosOk2 X W Try.prog u true tyScope p) :
    Calls Try.prog 54 #[v, v2, u] W (fun e W' => ∃ v E', e = .returned v ∧ Grow W [] W' E' ∧ RepM X W' E' [] ∧ RepV X W' E' [] (.c (.bool (allB p xs ys))) v) := by
  obtain ⟨g, caps, rfl, ent, hc⟩ := hc
  refine hcalls_of (T := ⟨[], [], [], [], some ⟨_, g, caps, rfl, [.s tyScope, .s tyScope], fun x => .c (.bool (p x.1 x.2.1)), ent⟩, fun _ => [], 0, [], []⟩) (L := (L_slices_EqualFunc_i_Scope_i_Scope_i_Scope_i_Scope p xs ys)) (args := [.c (.hs .no tyScope xs), .c (.hs .no tyScope ys), .c (.raw ((Value.func (.func g) #[] caps.toArray)))]) Try.func54 ⟨rfl, rfl⟩ (fun c hc' => ?_) hsz hgl ⟨v, _, rfl, hv, v2, _, rfl, hv2, _, [], rfl, ⟨rfl, rfl⟩, rfl⟩ (fun hwf => ?_)
  · obtain rfl := Option.some.inj hc'
    intro W' E' x vs gr hr
    obtain ⟨va, r, rfl, h1, vb, r2, rfl, h2, hnil⟩ := hr
    obtain rfl : r2 = [] := hnil
    exact hc W' E' x.1 x.2.1 va vb gr h1 h2
  refine Eq.mpr (β := (True ∧ (True ∧ (True ∧ (True ∧ (True ∧ (True ∧ (bif (neI ((List.length xs : Nat) : Int) ((List.length ys : Nat) : Int)) then (True ∧ ((true = true ∧ leC (.bool false) (.bool (allB p xs ys))) ∧ true = true)) else (True ∧ (True ∧ (True ∧ ((∃ q : Nat, (q ≤ List.length xs ∧ ∀ j, j < q → p (nth_Scope xs j) (nth_Scope ys j) = true) ∧ ((lxs [.c (.hs .no tyScope xs), .c (.hs .no tyScope ys), .c (.raw ((Value.func (.func g) #[] caps.toArray))), .tp [], .tp [], .tp []] (TN 4 (lxs [.c (.hs .no tyScope xs), .c (.int .i64 ((List.length xs : Nat) : Int)), .c (.hs .no tyScope ys), .c (.int .i64 ((List.length ys : Nat) : Int)), .c (.bool false), .c (.hs .no tyScope xs), .c (.int .i64 ((List.length xs : Nat) : Int))] (leV (.c (.int .i64 0)) (.c (.int .i64 ((q : Nat) : Int))) ∧ TN 14 True)))) ∧ (True) ∧ true = true)) ∧ ∀ y0 : Nat, (y0 ≤ List.length xs ∧ ∀ j, j < y0 → p (nth_Scope xs j) (nth_Scope ys j) = true) → (True ∧ (bif (ltI ((y0 : Nat) : Int) ((List.length xs : Nat) : Int)) then (True ∧ (((3 : Nat) = 3 ∧ (0 : Int) ≤ ((y0 : Nat) : Int) ∧ (((y0 : Nat) : Int) : Int) < ((List.length xs : Nat) : Int)) ∧ (True ∧ (True ∧ (True ∧ (True ∧ (True ∧ (True ∧ (((3 : Nat) = 3 ∧ (0 : Int) ≤ ((y0 : Nat) : Int) ∧ (((y0 : Nat) : Int) : Int) < ((List.length ys : Nat) : Int)) ∧ (True ∧ (True ∧ (True ∧ (True ∧ (True ∧ (True ∧ (((Value.func (.func g) #[] caps.toArray) = (Value.func (.func g) #[] caps.toArray) ∧ true = true) ∧ (True ∧ (bif (!(p (nth_Scope xs (Int.toNat ((y0 : Nat) : Int))) (nth_Scope ys (Int.toNat ((y0 : Nat) : Int))))) then (True ∧ ((true = true ∧ leC (.bool false) (.bool (allB p xs ys))) ∧ true = true)) else (True ∧ (True ∧ (∃ y0' : Nat, (y0' ≤ List.length xs ∧ ∀ j, j < y0' → p (nth_Scope xs j) (nth_Scope ys j) = true) ∧ (List.length xs - y0') < (List.length xs - y0) ∧ ((lxs [.c (.hs .no tyScope xs), .c (.hs .no tyScope ys), .c (.raw ((Value.func (.func g) #[] caps.toArray))), .tp [], .tp [], .tp []] (TN 4 (lxs [.c (.hs .no tyScope xs), .c (.int .i64 ((List.length xs : Nat) : Int)), .c (.hs .no tyScope ys), .c (.int .i64 ((List.length ys : Nat) : Int)), .c (.bool false), .c (.hs .no tyScope xs), .c (.int .i64 ((List.length xs : Nat) : Int))] (leV (.c (.int .i64 (IntKind.wrap .i64 (((y0 : Nat) : Int) + 1)))) (.c (.int .i64 ((y0' : Nat) : Int))) ∧ TN 14 True)))) ∧ (True) ∧ true = true)))))))))))))))))))))) else (True ∧ ((true = true ∧ leC (.bool true) (.bool (allB p xs ys))) ∧ true = true)))))))))))))))) (by kernel_rfl) ?_
  simp only [SIA, eq_self]
  have hm : xs.length ≤ maxLen := hwf.1.1
  refine ⟨fun hl => ?_, fun hl => ⟨⟨0, ⟨Nat.zero_le _, allN_zero⟩, rfl⟩, fun k hk => ⟨fun hlt => ⟨by omega, by omega, fun hp => ?_, fun hp => ?_⟩, fun hge => ?_⟩⟩⟩
  · exact (allB_len (fun e => hl (by rw [e]))).symm
  · have hk1 : k < xs.length := by omega
    have hk2 : k < ys.length := by omega
    exact (allB_nth_no (t := tyScope) hk1 hk2 hp).symm
  · exact ⟨k + 1, ⟨by omega, allN_step hk.2 hp⟩, by omega, wrapN (by omega)⟩
  · obtain rfl : k = xs.length := by omega
    have hl' : xs.length = ys.length := by omega
    exact (allB_nth (t := tyScope) hl' hk.2).symm
def e_slices_EqualFunc_i_Scope_i_Scope_i_Scope_i_Scope : HEntry2 Try.prog := ⟨54, tyScope, true, fun p xs ys => .bool (allB p xs ys), h_slices_EqualFunc_i_Scope_i_Scope_i_Scope_i_Scope, Try.call54⟩
def L_slices_EqualFunc_i_Token_i_Token_i_Token_i_Token (p : GToken → GToken → Bool) (xs ys : List GToken) : Nat → List AV → Mem → LoopA
  | 4, tm, M => ⟨Nat, fun y => (anyR (anyR (setA tm [(17, .c (.int .i64 ((y : Nat) : Int)))]) 6 4) 18 14, M), fun y => (y ≤ List.length xs ∧ ∀ j, j < y → p (nth_Token xs j) (nth_Token ys j) = true), fun y => (List.length xs - y)⟩
  | _, _, _ => ⟨Unit, fun _ => ([], []), fun _ => False, fun _ => 0⟩
theorem h_slices_EqualFunc_i_Token_i_Token_i_Token_i_Token (p : GToken → GToken → Bool) (xs ys : List GToken) (u : Value) (X : List Nat) (W : World) (v : Value) (v2 : Value) (hsz : ∀ b ∈ X, b < W.heap.size) (hgl : Glob W []) (hv : RepC X W [] [] (.hs .no tyToken xs) v) (hv2 : RepC X W [] [] (.hs .no tyToken ys) v2) (hc : ClosOk2 X W Try.prog u true tyToken p) :
    Calls Try.prog 70 #[v, v2, u] W (fun e W' => ∃ v E', e = .returned v ∧ Grow W [] W' E' ∧ RepM X W' E' [] ∧ RepV X W' E' [] (.c (.bool (allB p xs ys))) v) := by
  obtain ⟨g, caps, rfl, ent, hc⟩ := hc
  refine hcalls_of (T := ⟨[], [], [], [], some ⟨_, g, caps, rfl, [.s tyToken, .s tyToken], fun x => .c (.bool (p x.1 x.2.1)), ent⟩, fun _ => [], 0, [], []⟩) (L := (L_slices_EqualFunc_i_Token_i_Token_i_Token_i_Token p xs ys)) (args := [.c (.hs .no tyToken xs), .c (.hs .no tyToken ys), .c (.raw ((Value.func (.func g) #[] caps.toArray)))]) Try.func70 ⟨rfl, rfl⟩ (fun c hc' => ?_) hsz hgl ⟨v, _, rfl, hv, v2, _, rfl, hv2, _, [], rfl, ⟨rfl, rfl⟩, rfl⟩ (fun hwf => ?_)
  · obtain rfl := Option.some.inj hc'
    intro W' E' x vs gr hr
    obtain ⟨va, r, rfl, h1, vb, r2, rfl, h2, hnil⟩ := hr
    obtain rfl : r2 = [] := hnil
    exact hc W' E' x.1 x.2.1 va vb gr h1 h2
  refine Eq.mpr (β := (True ∧ (True ∧ (True ∧ (True ∧ (True ∧ (True ∧ (bif (neI ((List.length xs : Nat) : Int) ((List.length ys : Nat) : Int)) then (True ∧ ((true = true ∧ leC (.bool false) (.bool (allB p xs ys))) ∧ true = true)) else (True ∧ (True ∧ (True ∧ ((∃ q : Nat, (q ≤ List.length xs ∧ ∀ j, j < q → p (nth_Token xs j) (nth_Token ys j) = true) ∧ ((lxs [.c (.hs .no tyToken xs), .c (.hs .no tyToken ys), .c (.raw ((Value.func (.func g) #[] caps.toArray))), .tp [], .tp [], .tp []] (TN 4 (lxs [.c (.hs .no tyToken xs), .c (.int .i64 ((List.length xs : Nat) : Int)), .c (.hs .no tyToken ys), .c (.int .i64 ((List.length ys : Nat) : Int)), .c (.bool false), .c (.hs .no tyToken xs), .c (.int .i64 ((List.length xs : Nat) : Int))] (leV (.c (.int .i64 0)) (.c (.int .i64 ((q : Nat) : Int))) ∧ TN 14 True)))) ∧ (True) ∧ true = true)) ∧ ∀ y0 : Nat, (y0 ≤ List.length xs ∧ ∀ j, j < y0 → p (nth_Token xs j) (nth_Token ys j) = true) → (True ∧ (bif (ltI ((y0 : Nat) : Int) ((List.length xs : Nat) : Int)) then (True ∧ (((2 : Nat) = 2 ∧ (0 : Int) ≤ ((y0 : Nat) : Int) ∧ (((y0 : Nat) : Int) : Int) < ((List.length xs : Nat) : Int)) ∧ (True ∧ (True ∧ (True ∧ (True ∧ (True ∧ (True ∧ (((2 : Nat) = 2 ∧ (0 : Int) ≤ ((y0 : Nat) : Int) ∧ (((y0 : Nat) : Int) : Int) < ((List.length ys : Nat) : Int)) ∧ (True ∧ (True ∧ (True ∧ (True ∧ (True ∧ (True ∧ (((Value.func (.func g) #[] caps.toArray) = (Value.func (.func g) #[] caps.toArray) ∧ true = true) ∧ (True ∧ (bif (!(p (nth_Token xs (Int.toNat ((y0 : Nat) : Int))) (nth_Token ys (Int.toNat ((y0 : Nat) : Int))))) then (True ∧ ((true = true ∧ leC (.bool false) (.bool (allB p xs ys))) ∧ true = true)) else (True ∧ (True ∧ (∃ y0' : Nat, (y0' ≤ List.length xs ∧ ∀ j, j < y0' → p (nth_Token xs j) (nth_Token ys j) = true) ∧ (List.length xs - y0') < (List.length xs - y0) ∧ ((lxs [.c (.hs .no tyToken xs), .c (.hs .no tyToken ys), .c (.raw ((Value.func (.func g) #[] caps.toArray))), .tp [], .tp [], .tp []] (TN 4 (lxs [.c (.hs .no tyToken xs), .c (.int .i64 ((List.length xs : Nat) : Int)), .c (.hs .no tyToken ys), .c (.int .i64 ((List.length ys : Nat) : Int)), .c (.bool false), .c (.hs .no tyToken xs), .c (.int .i64 ((List.length xs : Nat) : Int))] (leV (.c (.int .i64 (IntKind.wrap .i64 (((y0 : Nat) : Int) + 1)))) (.c (.int .i64 ((y0' : Nat) : Int))) ∧ TN 14 True)))) ∧ (True) ∧ true = true)))))))))))))))))))))) else (True ∧ ((true = true ∧ leC (.bool true) (.bool (allB p xs ys))) ∧ true = true)))))))))))))))) (by kernel_rfl) ?_
  simp only [SIA, eq_self]
  have hm : xs.length ≤ maxLen := hwf.1.1
  refine ⟨fun hl => ?_, fun hl => ⟨⟨0, ⟨Nat.zero_le _, allN_zero⟩, rfl⟩, fun k hk => ⟨fun hlt => ⟨by omega, by omega, fun hp => ?_, fun hp => ?_⟩, fun hge => ?_⟩⟩⟩
  · exact (allB_len (fun e => hl (by rw [e]))).symm
  · have hk1 : k < xs.length := by omega
    have hk2 : k < ys.length := by omega
    exact (allB_nth_no (t := tyToken) hk1 hk2 hp).symm
  · exact ⟨k + 1, ⟨by omega, allN_step hk.2 hp⟩, by omega, wrapN (by omega)⟩
  · obtain rfl : k = xs.length := by omega
    have hl' : xs.length = ys.length := by omega
    exact (allB_nth (t := tyToken) hl' hk.2).symm
def e_slices_EqualFunc_i_Token_i_Token_i_Token_i_Token : HEntry2 Try.prog := ⟨70, tyToken, true, fun p xs ys => .bool (allB p xs ys), h_slices_EqualFunc_i_Token_i_Token_i_Token_i_Token, Try.call70⟩
end Go.Proofs.Ytoigkpkafgjeaaa
