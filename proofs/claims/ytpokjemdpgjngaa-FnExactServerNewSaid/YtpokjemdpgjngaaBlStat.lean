/-
  The status of a mailbox.
  No condition but what the arguments' cells hold. Printed by vcgen.py.
-/
import Derived.Test.YtpokjemdpgjngaaBlLib
set_option linter.unusedSimpArgs false
set_option linter.unusedVariables false
namespace Go.Proofs.Ytpokjemdpgjngaa
open Go.ChangeShapes Go.WideShapes Go.ChangeAt Go.RowKit Go.Joins Go.Deep
open GoRep (rep bulk)

def boxIx (l : List GBox) (n : ByteArray) : Int := idxL (fun z0 : GBox => eqS z0.1 n) l
def L_s_BoxNamed (list : List GBox) (name : ByteArray) : Nat → List AV → Mem → LoopA
  | 2, tm, M => ⟨Nat, fun y => (setA tm [(4, .any), (5, .c (.int .i64 ((y : Nat) : Int))), (6, .any), (7, .any), (8, .any), (9, .any), (10, .any), (11, .any), (12, .any), (13, .any), (14, .any), (15, .any), (16, .any), (17, .any), (18, .any), (19, .any)], M), fun y => (y ≤ List.length list ∧ ∀ j, j < y → eqS (nth_Box list j).1 name = false), fun y => (List.length list - y)⟩
  | _, _, _ => ⟨Unit, fun _ => ([], []), fun _ => False, fun _ => 0⟩
set_option maxRecDepth 100000 in
set_option maxHeartbeats 400000 in
theorem b_s_BoxNamed (list : List GBox) (name : ByteArray) : BCalls Try.prog 109 [.c (.hs .no tyBox list), .c (.str name)] (.c (.int .i64 (boxIx list name))) [] := by
  refine bcalls_of (T := ⟨[], [], [], [], none, fun _ => [], 0, [], []⟩) (L := (L_s_BoxNamed list name)) Try.func109 ⟨⟨rfl, rfl⟩, rfl⟩ (fun hwf => ?_)
  refine Eq.mpr (β := (True ∧ (True ∧ ((∃ q : Nat, (q ≤ List.length list ∧ ∀ j, j < q → eqS (nth_Box list j).1 name = false) ∧ ((leV (.c (.hs .no tyBox list)) (.c (.hs .no tyBox list)) ∧ leV (.c (.str name)) (.c (.str name)) ∧ leV (.tp []) (.tp []) ∧ leV (.tp []) (.tp []) ∧ True ∧ leV (.c (.int .i64 0)) (.c (.int .i64 ((q : Nat) : Int))) ∧ True ∧ True ∧ True ∧ True ∧ True ∧ True ∧ True ∧ True ∧ True ∧ True ∧ True ∧ True ∧ True ∧ True ∧ True) ∧ (True) ∧ true = true)) ∧ ∀ y0 : Nat, (y0 ≤ List.length list ∧ ∀ j, j < y0 → eqS (nth_Box list j).1 name = false) → (True ∧ (True ∧ (True ∧ (True ∧ (bif (ltI ((y0 : Nat) : Int) ((List.length list : Nat) : Int)) then (True ∧ (True ∧ (((4 : Nat) = 4 ∧ (0 : Int) ≤ ((y0 : Nat) : Int) ∧ (((y0 : Nat) : Int) : Int) < ((List.length list : Nat) : Int)) ∧ (True ∧ (True ∧ (True ∧ (True ∧ (bif (eqS (nth_Box list (Int.toNat ((y0 : Nat) : Int))).1 name) then (True ∧ (True ∧ ((true = true ∧ leC (.int .i64 ((y0 : Nat) : Int)) (.int .i64 (boxIx list name))) ∧ true = true))) else (True ∧ (True ∧ (True ∧ (∃ y0' : Nat, (y0' ≤ List.length list ∧ ∀ j, j < y0' → eqS (nth_Box list j).1 name = false) ∧ (List.length list - y0') < (List.length list - y0) ∧ ((leV (.c (.hs .no tyBox list)) (.c (.hs .no tyBox list)) ∧ leV (.c (.str name)) (.c (.str name)) ∧ leV (.tp []) (.tp []) ∧ leV (.tp []) (.tp []) ∧ True ∧ leV (.c (.int .i64 (IntKind.wrap .i64 (((y0 : Nat) : Int) + 1)))) (.c (.int .i64 ((y0' : Nat) : Int))) ∧ True ∧ True ∧ True ∧ True ∧ True ∧ True ∧ True ∧ True ∧ True ∧ True ∧ True ∧ True ∧ True ∧ True ∧ True) ∧ (True) ∧ true = true))))))))))))) else (True ∧ ((true = true ∧ leC (.int .i64 (-1)) (.int .i64 (boxIx list name))) ∧ true = true))))))))))) (by kernel_rfl) ?_
  simp only [true_and, and_true, cond_iff, eqI_true, eqI_false, neI_true, neI_false, ltI_true, ltI_false, leI_true, leI_false, gtI_true, gtI_false, geI_true, geI_false, eqS_true, eqS_false, eqO_true, eqO_false, not_true, not_false, Bool.not_eq_true', Bool.not_eq_false', eq_self, leV_any, leV_int, leV_bool, leV_str, leV_refl, leB_refl, leC_int, leC_bool, leC_str, leC_hs, leB_row, Int.toNat_natCast]
  have hm : list.length ≤ maxLen := hwf.1.1
  refine ⟨⟨0, ⟨Nat.zero_le _, allN_zero⟩, rfl⟩, fun k hk => ⟨fun hlt => ⟨by omega, fun hp => ?_, fun hp => ?_⟩, fun hge => ?_⟩⟩
  · have hk' : k < list.length := by omega
    exact (idxL_nth (t := tyBox) (p := fun z0 : GBox => eqS z0.1 name) (xs := list) hk' (fun j hj => eqS_false.2 (hk.2 j hj)) (eqS_true.2 hp)).symm
  · exact ⟨k + 1, ⟨by omega, allN_step hk.2 hp⟩, by omega, wrapN (by omega)⟩
  · obtain rfl : k = list.length := by omega
    exact (idxL_nth_none (t := tyBox) (p := fun z0 : GBox => eqS z0.1 name) (fun j hj => eqS_false.2 (hk.2 j hj))).symm
def e_s_BoxNamed : Entry Try.prog := ⟨109, [.v (.list tyBox), .v tyStr], fun x => True, fun x => .c (.int .i64 (boxIx x.1 x.2.1)), fun _ => [], fun x hx => b_s_BoxNamed x.1 x.2.1, Try.call109⟩
def statusL (st : GStore) (n : ByteArray) : List GReply := if boxIx st.1 n < 0 then [] else [(5, ((List.length (nth_Box st.1 (Int.toNat (boxIx st.1 n))).2.2.2 : Nat) : Int), (nth_Box st.1 (Int.toNat (boxIx st.1 n))).2.2.1, 0, n, ByteArray.empty)]
end Go.Proofs.Ytpokjemdpgjngaa
