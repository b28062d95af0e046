/-
  The library's functions on slices.
  No condition but what the arguments' cells hold. Printed by vcgen.py.
-/
import Derived.Test.YtoigkpkafgjeaaaGreatDoorOBmTy
set_option linter.unusedSimpArgs false
set_option linter.unusedVariables false
set_option maxRecDepth 100000
set_option maxHeartbeats 4000000
namespace Go.Proofs.YtoigkpkafgjeaaaGreatDoor
open Go.ChangeShapes Go.WideShapes Go.ChangeAt Go.RowKit Go.Joins Go.Deep
open GoRep (rep bulk)

def L_slices_IndexFunc_i_Reply_i_Reply (p : GCommit → Bool) (xs : List GCommit) : Nat → List AV → Mem → LoopA
  | 2, tm, M => ⟨Nat, fun y => (anyR (setA tm [(4, .any), (5, .any), (8, .c (.int .i64 ((y : Nat) : Int)))]) 9 10, M), fun y => (y ≤ List.length xs ∧ ∀ j, j < y → p (nth_Commit xs j) = false), fun y => (List.length xs - y)⟩
  | _, _, _ => ⟨Unit, fun _ => ([], []), fun _ => False, fun _ => 0⟩
theorem h_slices_IndexFunc_i_Reply_i_Reply (p : GCommit → Bool) (xs : List GCommit) (u : Value) (X : List Nat) (W : World) (v : Value) (hsz : ∀ b ∈ X, b < W.heap.size) (hgl : Glob W []) (hv : RepC X W [] [] (.hs .no tyCommit xs) v) (hc : ClosOk X W Tryz.prog u true tyCommit p) :
    Calls Tryz.prog 31 #[v, u] W (fun e W' => ∃ v E', e = .returned v ∧ Grow W [] W' E' ∧ RepM X W' E' [] ∧ RepV X W' E' [] (.c (.int .i64 (idxL p xs))) v) := by
  obtain ⟨g, caps, rfl, ent, hc⟩ := hc
  refine hcalls_of (T := ⟨[], [], [], [], some ⟨_, g, caps, rfl, [.s tyCommit], fun x => .c (.bool (p x.1)), ent⟩, fun _ => [], 0, [], []⟩) (L := (L_slices_IndexFunc_i_Reply_i_Reply p xs)) (args := [.c (.hs .no tyCommit xs), .c (.raw ((Value.func (.func g) #[] caps.toArray)))]) Tryz.func31 ⟨rfl, rfl⟩ (fun c hc' => ?_) hsz hgl ⟨v, _, rfl, hv, _, [], rfl, ⟨rfl, rfl⟩, rfl⟩ (fun hwf => ?_)
  · obtain rfl := Option.some.inj hc'
    intro W' E' x vs gr hr
    obtain ⟨va, r, rfl, h1, hnil⟩ := hr
    obtain rfl : r = [] := hnil
    exact hc W' E' x.1 va gr h1
  refine Eq.mpr (β := (True ∧ (True ∧ (True ∧ (True ∧ ((∃ q : Nat, (q ≤ List.length xs ∧ ∀ j, j < q → p (nth_Commit xs j) = false) ∧ ((lxs [.c (.hs .no tyCommit xs), .c (.raw ((Value.func (.func g) #[] caps.toArray))), .tp [], .tp []] (True ∧ True ∧ lxs [.c (.hs .no tyCommit xs), .c (.int .i64 ((List.length xs : Nat) : Int))] (leV (.c (.int .i64 0)) (.c (.int .i64 ((q : Nat) : Int))) ∧ TN 10 True))) ∧ (True) ∧ true = true)) ∧ ∀ y0 : Nat, (y0 ≤ List.length xs ∧ ∀ j, j < y0 → p (nth_Commit xs j) = false) → (True ∧ (bif (ltI ((y0 : Nat) : Int) ((List.length xs : Nat) : Int)) then (True ∧ (True ∧ (True ∧ (True ∧ (True ∧ (((6 : Nat) = 6 ∧ (0 : Int) ≤ ((y0 : Nat) : Int) ∧ (((y0 : Nat) : Int) : Int) < ((List.length xs : Nat) : Int)) ∧ (True ∧ (((Value.func (.func g) #[] caps.toArray) = (Value.func (.func g) #[] caps.toArray) ∧ true = true) ∧ (bif (p (nth_Commit xs (Int.toNat ((y0 : Nat) : Int)))) then (True ∧ (True ∧ ((true = true ∧ leC (.int .i64 ((y0 : Nat) : Int)) (.int .i64 (idxL p xs))) ∧ true = true))) else (True ∧ (True ∧ (∃ y0' : Nat, (y0' ≤ List.length xs ∧ ∀ j, j < y0' → p (nth_Commit xs j) = false) ∧ (List.length xs - y0') < (List.length xs - y0) ∧ ((lxs [.c (.hs .no tyCommit xs), .c (.raw ((Value.func (.func g) #[] caps.toArray))), .tp [], .tp []] (True ∧ True ∧ lxs [.c (.hs .no tyCommit xs), .c (.int .i64 ((List.length xs : Nat) : Int))] (leV (.c (.int .i64 (IntKind.wrap .i64 (((y0 : Nat) : Int) + 1)))) (.c (.int .i64 ((y0' : Nat) : Int))) ∧ TN 10 True))) ∧ (True) ∧ true = true))))))))))))) else (True ∧ ((true = true ∧ leC (.int .i64 (-1)) (.int .i64 (idxL p xs))) ∧ true = true)))))))))) (by kernel_rfl) ?_
  simp only [SIA, eq_self]
  have hm : xs.length ≤ maxLen := hwf.1.1
  refine ⟨⟨0, ⟨Nat.zero_le _, allN_zero⟩, rfl⟩, fun k hk => ⟨fun hlt => ⟨by omega, fun hp => ?_, fun hp => ?_⟩, fun hge => ?_⟩⟩
  · have hk' : k < xs.length := by omega
    exact (idxL_nth (t := tyCommit) hk' hk.2 hp).symm
  · exact ⟨k + 1, ⟨by omega, allN_step hk.2 hp⟩, by omega, wrapN (by omega)⟩
  · obtain rfl : k = xs.length := by omega
    exact (idxL_nth_none (t := tyCommit) hk.2).symm
def e_slices_IndexFunc_i_Reply_i_Reply : HEntry Tryz.prog := ⟨31, tyCommit, true, fun p xs => .int .i64 (idxL p xs), h_slices_IndexFunc_i_Reply_i_Reply, Tryz.call31⟩
theorem h_slices_ContainsFunc_i_Reply_i_Reply (p : GCommit → Bool) (xs : List GCommit) (u : Value) (X : List Nat) (W : World) (v : Value) (hsz : ∀ b ∈ X, b < W.heap.size) (hgl : Glob W []) (hv : RepC X W [] [] (.hs .no tyCommit xs) v) (hc : ClosOk X W Tryz.prog u true tyCommit p) :
    Calls Tryz.prog 16 #[v, u] W (fun e W' => ∃ v E', e = .returned v ∧ Grow W [] W' E' ∧ RepM X W' E' [] ∧ RepV X W' E' [] (.c (.bool (List.any xs p))) v) := by
  obtain ⟨g, caps, rfl, ent, hc⟩ := hc
  refine hcalls_of (T := ⟨[], [e_slices_IndexFunc_i_Reply_i_Reply], [], [], some ⟨_, g, caps, rfl, [.s tyCommit], fun x => .c (.bool (p x.1)), ent⟩, fun _ => [], 0, [], []⟩) (L := L0) (args := [.c (.hs .no tyCommit xs), .c (.raw ((Value.func (.func g) #[] caps.toArray)))]) Tryz.func16 ⟨rfl, rfl⟩ (fun c hc' => ?_) hsz hgl ⟨v, _, rfl, hv, _, [], rfl, ⟨rfl, rfl⟩, rfl⟩ (fun hwf => ?_)
  · obtain rfl := Option.some.inj hc'
    intro W' E' x vs gr hr
    obtain ⟨va, r, rfl, h1, hnil⟩ := hr
    obtain rfl : r = [] := hnil
    exact hc W' E' x.1 va gr h1
  refine Eq.mpr (β := (True ∧ (True ∧ (True ∧ (((Value.func (.func g) #[] caps.toArray) = (Value.func (.func g) #[] caps.toArray) ∧ (∀ z0 : GCommit, True) ∧ ∀ (_ : GCommit → Bool) (_ : List GCommit), true = true) ∧ (True ∧ (True ∧ ((true = true ∧ leC (.bool (geI (idxL (fun z0 : GCommit => (p z0)) xs) 0)) (.bool (List.any xs p))) ∧ true = true)))))))) (by kernel_rfl) ?_
  simp only [SIA, eq_self]
  refine ⟨⟨fun _ => trivial, fun _ _ => trivial⟩, ?_⟩
  rw [Bool.eq_iff_iff, geI_true]
  exact idxL_ge xs
def e_slices_ContainsFunc_i_Reply_i_Reply : HEntry Tryz.prog := ⟨16, tyCommit, true, fun p xs => .bool (List.any xs p), h_slices_ContainsFunc_i_Reply_i_Reply, Tryz.call16⟩
end Go.Proofs.YtoigkpkafgjeaaaGreatDoor
