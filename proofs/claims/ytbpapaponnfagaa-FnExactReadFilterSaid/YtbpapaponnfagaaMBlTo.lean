/-
  The laws' functions toX.
  No condition but what the arguments' cells hold. Printed by vcgen.py.
-/
import Derived.Test.YtbpapaponnfagaaMLawA
set_option linter.unusedSimpArgs false
set_option linter.unusedVariables false
set_option maxRecDepth 100000
set_option maxHeartbeats 4000000
namespace Go.Proofs.Ytbpapaponnfagaa
open Go.ChangeShapes Go.WideShapes Go.ChangeAt Go.RowKit Go.Joins Go.Deep
open GoRep (rep bulk)

theorem b_l_toToken (a : GToken) : BCalls Try.prog 34 [.ag [.int .i64 a.1, .str a.2]] (.ag [.int .i64 a.1, .str a.2]) [] := by
  refine bc0 [] [] [] [] L0 Try.func34 (fun hwf => ?_)
  refine Eq.mpr (β := (True ∧ (True ∧ (True ∧ (True ∧ (True ∧ (True ∧ (True ∧ (True ∧ (True ∧ (True ∧ (True ∧ (True ∧ (True ∧ ((((true = true ∧ leC (.int .i64 a.1) (.int .i64 a.1)) ∧ (true = true ∧ leC (.str a.2) (.str a.2)) ∧ True)) ∧ true = true))))))))))))))) (by kernel_rfl) ?_
  simp only [SIA, eq_self]
  repeat' (first | apply And.intro | intro _)
  all_goals (first | trivial | omega)
def e_l_toToken : Entry Try.prog := ⟨34, [.s tyToken], fun x => True, fun x => .ag [.int .i64 x.1.1, .str x.1.2], fun _ => [], fun x hx => b_l_toToken x.1, Try.call34⟩
abbrev toP_l_toTokenS (a : List GToken) : Prop := bulk a ≤ 1048576
def L_l_toTokenS (a : List GToken) : Nat → List AV → Mem → LoopA
  | 3, tm, M => ⟨Nat, fun y => (anyR (setA tm [(4, .c (.int .i64 ((y : Nat) : Int)))]) 8 14, setM M [(0, .row tyToken (List.take y a ++ List.replicate (List.length a - y) z_Token) 0 0 none)]), fun y => (y ≤ List.length a), fun y => (List.length a - y)⟩
  | _, _, _ => ⟨Unit, fun _ => ([], []), fun _ => False, fun _ => 0⟩
theorem b_l_toTokenS (a : List GToken) (hpre : toP_l_toTokenS a) : BCalls Try.prog 8 [.c (.hs .no tyToken a)] (.c (.row 0 0)) [.row tyToken a 0 0 none] := by
  refine bc0 [e_l_toToken] [] [] [] (L_l_toTokenS a) Try.func8 (fun hwf => ?_)
  refine Eq.mpr (β := (T3 (((((List.length a : Nat) : Int) : Int) = ((List.length a : Nat) : Int) ∧ (0 : Int) ≤ ((List.length a : Nat) : Int) ∧ (((List.length a : Nat) : Int) : Int) ≤ ((rowMax : Nat) : Int)) ∧ (T2 ((∃ q : Nat, (q ≤ List.length a) ∧ ((lxs [.c (.hs .no tyToken a), .tp [], .c (.raw (.slice none 0 0)), .c (.row 0 0)] (leV (.c (.int .i64 0)) (.c (.int .i64 ((q : Nat) : Int))) ∧ lxs [.c (.hs .no tyToken a), .c (.int .i64 ((List.length a : Nat) : Int)), .c (.row 0 0)] (TN 14 (lxs [.tp []] True)))) ∧ (leB (.row tyToken (List.replicate (Int.toNat ((List.length a : Nat) : Int)) z_Token) 0 0 none) (.row tyToken (List.take q a ++ List.replicate (List.length a - q) z_Token) 0 0 none) ∧ True) ∧ true = true)) ∧ ∀ y0 : Nat, (y0 ≤ List.length a) → (T4 (bif (ltI ((y0 : Nat) : Int) ((List.length a : Nat) : Int)) then (T4 (((2 : Nat) = 2 ∧ (0 : Int) ≤ ((y0 : Nat) : Int) ∧ (((y0 : Nat) : Int) : Int) < ((List.length a : Nat) : Int)) ∧ (True ∧ ((True ∧ true = true) ∧ (((2 : Nat) = 2 ∧ (0 : Int) ≤ ((y0 : Nat) : Int) ∧ (((y0 : Nat) : Int) : Int) < ((List.length (List.take y0 a ++ List.replicate (List.length a - y0) z_Token) : Nat) : Int)) ∧ (True ∧ ∀ r1 : List GToken, r1 = (List.set (List.take y0 a ++ List.replicate (List.length a - y0) z_Token) (Int.toNat ((y0 : Nat) : Int)) (nth_Token a (Int.toNat ((y0 : Nat) : Int)))) → (T3 (∃ y0' : Nat, (y0' ≤ List.length a) ∧ (List.length a - y0') < (List.length a - y0) ∧ ((lxs [.c (.hs .no tyToken a), .tp [], .c (.raw (.slice none 0 0)), .c (.row 0 0)] (leV (.c (.int .i64 (IntKind.wrap .i64 (((y0 : Nat) : Int) + 1)))) (.c (.int .i64 ((y0' : Nat) : Int))) ∧ lxs [.c (.hs .no tyToken a), .c (.int .i64 ((List.length a : Nat) : Int)), .c (.row 0 0)] (TN 14 (lxs [.tp []] True)))) ∧ (leB (.row tyToken r1 0 0 none) (.row tyToken (List.take y0' a ++ List.replicate (List.length a - y0') z_Token) 0 0 none) ∧ True) ∧ true = true))))))))) else (T2 (((List.take y0 a ++ List.replicate (List.length a - y0) z_Token) = a) ∧ true = true))))))))) (by kernel_rfl) ?_
  unfold T2 T3 T4
  have hp : bulk a ≤ 1048576 := hpre
  have hb : bulk a = a.length + bulkL a := rfl
  simp only [SIA, eq_self]
  refine ⟨⟨by omega, by unfold rowMax; omega⟩, ⟨0, Nat.zero_le _, rfl, Eq.mpr (leB_row (t := tyToken)) rfl⟩, fun k hk => ⟨fun hlt => ?_, fun hge => ?_⟩⟩
  · have hlt : k < a.length := by omega
    have hk := nth_getElem? (t := tyToken) hlt
    have hl : (List.take k a ++ List.replicate (List.length a - k) z_Token).length = a.length := by simp; omega
    have hbn : bulk (nth_Token a k) ≤ bulkL a := bulk_nth hk
    refine ⟨⟨by omega, by omega⟩, ⟨by omega, by rw [hl]; omega⟩, fun r1 hr => ⟨k + 1, hlt, by omega, wrapN (by unfold maxLen; omega), Eq.mpr (leB_row (t := tyToken)) ?_⟩⟩
    exact hr.trans (fill_set hk)
  · obtain rfl : k = a.length := by omega
    exact fill_end a _
def e_l_toTokenS : Entry Try.prog := ⟨8, [.v (.list tyToken)], fun x => toP_l_toTokenS x.1, fun x => .c (.row 0 0), fun x => [.row tyToken x.1 0 0 none], fun x hx => b_l_toTokenS x.1 hx, Try.call8⟩
end Go.Proofs.Ytbpapaponnfagaa
