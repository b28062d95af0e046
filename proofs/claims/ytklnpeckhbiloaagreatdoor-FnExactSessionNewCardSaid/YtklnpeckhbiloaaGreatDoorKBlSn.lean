/-
  New sessions.
  No condition but what the arguments' cells hold. Printed by vcgen.py.
-/
import Derived.Test.YtklnpeckhbiloaaGreatDoorKBlFits
set_option linter.unusedSimpArgs false
set_option linter.unusedVariables false
set_option maxRecDepth 100000
set_option maxHeartbeats 4000000
namespace Go.Proofs.YtklnpeckhbiloaaGreatDoor
open Go.ChangeShapes Go.WideShapes Go.ChangeAt Go.RowKit Go.Joins Go.Deep
open GoRep (rep bulk)

def hiR : GReply := (16, 0, 0, 0, (⟨#[]⟩ : ByteArray), (⟨#[]⟩ : ByteArray))
def hiS : ByteArray := linesT [hiR]
def sesN : GSession := (true, 1, 0, 0, [], (false, []), (⟨#[]⟩ : ByteArray), (⟨#[]⟩ : ByteArray), ([], false, false), ((⟨#[]⟩ : ByteArray), false), (hiS, (⟨#[]⟩ : ByteArray)), 0)
theorem hi_fits : fitsB ((⟨#[]⟩ : ByteArray), (⟨#[]⟩ : ByteArray)) [hiR] = true := by decide +kernel
theorem hi_put : putB ((⟨#[]⟩ : ByteArray), (⟨#[]⟩ : ByteArray)) [hiR] = (hiS, (⟨#[]⟩ : ByteArray)) := by
  rw [putB_y hi_fits]
  exact Prod.ext (ByteArray.empty_append (b := linesT [hiR])) rfl
theorem b_i_SessionNew  : BCalls Tryz.prog 6 [] (.ag [.bool sesN.1, .int .i64 sesN.2.1, .int .i64 sesN.2.2.1, .int .i64 sesN.2.2.2.1, .row 0 0, .bool sesN.2.2.2.2.2.1.1, .row 1 0, .str sesN.2.2.2.2.2.2.1, .str sesN.2.2.2.2.2.2.2.1, .row 2 0, .bool sesN.2.2.2.2.2.2.2.2.1.2.1, .bool sesN.2.2.2.2.2.2.2.2.1.2.2, .str sesN.2.2.2.2.2.2.2.2.2.1.1, .bool sesN.2.2.2.2.2.2.2.2.2.1.2, .str sesN.2.2.2.2.2.2.2.2.2.2.1.1, .str sesN.2.2.2.2.2.2.2.2.2.2.1.2, .int .i64 sesN.2.2.2.2.2.2.2.2.2.2.2]) [.row tySpan sesN.2.2.2.2.1 0 0 none, .row tyScope sesN.2.2.2.2.2.1.2 0 0 none, .row tyNote sesN.2.2.2.2.2.2.2.2.1.1 0 0 none] := by
  refine bc0 [e_i_LinesText] [] [] [] L0 Tryz.func6 (fun hwf => ?_)
  refine Eq.mpr (β := (T3 ((List.length ([(16, (0, (0, (0, ((⟨#[]⟩ : ByteArray), (⟨#[]⟩ : ByteArray))))))]) ≤ 1048576 ∧ true = true ∧ true = true) ∧ (T3 ((((true = true ∧ leC (.bool true) (.bool sesN.1)) ∧ (true = true ∧ leC (.int .i64 1) (.int .i64 sesN.2.1)) ∧ (true = true ∧ leC (.int .i64 0) (.int .i64 sesN.2.2.1)) ∧ (true = true ∧ leC (.int .i64 0) (.int .i64 sesN.2.2.2.1)) ∧ (sesN.2.2.2.2.1 = []) ∧ (true = true ∧ leC (.bool false) (.bool sesN.2.2.2.2.2.1.1)) ∧ (sesN.2.2.2.2.2.1.2 = []) ∧ (true = true ∧ leC (.str (⟨#[]⟩ : ByteArray)) (.str sesN.2.2.2.2.2.2.1)) ∧ (true = true ∧ leC (.str (⟨#[]⟩ : ByteArray)) (.str sesN.2.2.2.2.2.2.2.1)) ∧ (sesN.2.2.2.2.2.2.2.2.1.1 = []) ∧ (true = true ∧ leC (.bool false) (.bool sesN.2.2.2.2.2.2.2.2.1.2.1)) ∧ (true = true ∧ leC (.bool false) (.bool sesN.2.2.2.2.2.2.2.2.1.2.2)) ∧ (true = true ∧ leC (.str (⟨#[]⟩ : ByteArray)) (.str sesN.2.2.2.2.2.2.2.2.2.1.1)) ∧ (true = true ∧ leC (.bool false) (.bool sesN.2.2.2.2.2.2.2.2.2.1.2)) ∧ (true = true ∧ leC (.str (linesT ([(16, (0, (0, (0, ((⟨#[]⟩ : ByteArray), (⟨#[]⟩ : ByteArray))))))]))) (.str sesN.2.2.2.2.2.2.2.2.2.2.1.1)) ∧ (true = true ∧ leC (.str (⟨#[]⟩ : ByteArray)) (.str sesN.2.2.2.2.2.2.2.2.2.2.1.2)) ∧ (true = true ∧ leC (.int .i64 0) (.int .i64 sesN.2.2.2.2.2.2.2.2.2.2.2)) ∧ True)) ∧ true = true))))) (by kernel_rfl) ?_
  unfold T3
  have hf : fitsB ((⟨#[]⟩ : ByteArray), (⟨#[]⟩ : ByteArray)) [(16, 0, 0, 0, (⟨#[]⟩ : ByteArray), (⟨#[]⟩ : ByteArray))] = true := hi_fits
  have hp : putB ((⟨#[]⟩ : ByteArray), (⟨#[]⟩ : ByteArray)) [(16, 0, 0, 0, (⟨#[]⟩ : ByteArray), (⟨#[]⟩ : ByteArray))] = (hiS, (⟨#[]⟩ : ByteArray)) := hi_put
  try simp only [hf, hp]
  simp only [SI2A, eq_self]
  repeat' (with_reducible first | exact trivial | apply And.intro | intro _)
  all_goals first
    | (with_reducible trivial)
    | omega
    | (with_reducible assumption)
    | (exact Nat.le_add_left _ _)
    | (show 1 ≤ 1048576; decide)
    | decide
    | rfl
def e_i_SessionNew : Entry Tryz.prog := ⟨6, [], fun x => True, fun x => .ag [.bool sesN.1, .int .i64 sesN.2.1, .int .i64 sesN.2.2.1, .int .i64 sesN.2.2.2.1, .row 0 0, .bool sesN.2.2.2.2.2.1.1, .row 1 0, .str sesN.2.2.2.2.2.2.1, .str sesN.2.2.2.2.2.2.2.1, .row 2 0, .bool sesN.2.2.2.2.2.2.2.2.1.2.1, .bool sesN.2.2.2.2.2.2.2.2.1.2.2, .str sesN.2.2.2.2.2.2.2.2.2.1.1, .bool sesN.2.2.2.2.2.2.2.2.2.1.2, .str sesN.2.2.2.2.2.2.2.2.2.2.1.1, .str sesN.2.2.2.2.2.2.2.2.2.2.1.2, .int .i64 sesN.2.2.2.2.2.2.2.2.2.2.2], fun x => [.row tySpan sesN.2.2.2.2.1 0 0 none, .row tyScope sesN.2.2.2.2.2.1.2 0 0 none, .row tyNote sesN.2.2.2.2.2.2.2.2.1.1 0 0 none], fun x hx => b_i_SessionNew , Tryz.call6⟩
theorem b_s_SessionNew  : BCalls Tryz.prog 5 [] (.ag [.bool sesN.1, .int .i64 sesN.2.1, .int .i64 sesN.2.2.1, .int .i64 sesN.2.2.2.1, .row 0 0, .bool sesN.2.2.2.2.2.1.1, .row 1 0, .str sesN.2.2.2.2.2.2.1, .str sesN.2.2.2.2.2.2.2.1, .row 2 0, .bool sesN.2.2.2.2.2.2.2.2.1.2.1, .bool sesN.2.2.2.2.2.2.2.2.1.2.2, .str sesN.2.2.2.2.2.2.2.2.2.1.1, .bool sesN.2.2.2.2.2.2.2.2.2.1.2, .str sesN.2.2.2.2.2.2.2.2.2.2.1.1, .str sesN.2.2.2.2.2.2.2.2.2.2.1.2, .int .i64 sesN.2.2.2.2.2.2.2.2.2.2.2]) [.row tySpan sesN.2.2.2.2.1 0 0 none, .row tyScope sesN.2.2.2.2.2.1.2 0 0 none, .row tyNote sesN.2.2.2.2.2.2.2.2.1.1 0 0 none] := by
  refine bc0 [e_s_PutOut] [] [] [] L0 Tryz.func5 (fun hwf => ?_)
  refine Eq.mpr (β := (T4 ((List.length ([(16, (0, (0, (0, ((⟨#[]⟩ : ByteArray), (⟨#[]⟩ : ByteArray))))))]) ≤ 1048576 ∧ true = true ∧ true = true) ∧ (T9 ((((true = true ∧ leC (.bool true) (.bool sesN.1)) ∧ (true = true ∧ leC (.int .i64 1) (.int .i64 sesN.2.1)) ∧ (true = true ∧ leC (.int .i64 0) (.int .i64 sesN.2.2.1)) ∧ (true = true ∧ leC (.int .i64 0) (.int .i64 sesN.2.2.2.1)) ∧ (sesN.2.2.2.2.1 = []) ∧ (true = true ∧ leC (.bool false) (.bool sesN.2.2.2.2.2.1.1)) ∧ (sesN.2.2.2.2.2.1.2 = []) ∧ (true = true ∧ leC (.str (⟨#[]⟩ : ByteArray)) (.str sesN.2.2.2.2.2.2.1)) ∧ (true = true ∧ leC (.str (⟨#[]⟩ : ByteArray)) (.str sesN.2.2.2.2.2.2.2.1)) ∧ (sesN.2.2.2.2.2.2.2.2.1.1 = []) ∧ (true = true ∧ leC (.bool false) (.bool sesN.2.2.2.2.2.2.2.2.1.2.1)) ∧ (true = true ∧ leC (.bool false) (.bool sesN.2.2.2.2.2.2.2.2.1.2.2)) ∧ (true = true ∧ leC (.str (⟨#[]⟩ : ByteArray)) (.str sesN.2.2.2.2.2.2.2.2.2.1.1)) ∧ (true = true ∧ leC (.bool false) (.bool sesN.2.2.2.2.2.2.2.2.2.1.2)) ∧ (true = true ∧ leC (.str (putB ((⟨#[]⟩ : ByteArray), (⟨#[]⟩ : ByteArray)) ([(16, (0, (0, (0, ((⟨#[]⟩ : ByteArray), (⟨#[]⟩ : ByteArray))))))])).1) (.str sesN.2.2.2.2.2.2.2.2.2.2.1.1)) ∧ (true = true ∧ leC (.str (putB ((⟨#[]⟩ : ByteArray), (⟨#[]⟩ : ByteArray)) ([(16, (0, (0, (0, ((⟨#[]⟩ : ByteArray), (⟨#[]⟩ : ByteArray))))))])).2) (.str sesN.2.2.2.2.2.2.2.2.2.2.1.2)) ∧ (true = true ∧ leC (.int .i64 0) (.int .i64 sesN.2.2.2.2.2.2.2.2.2.2.2)) ∧ True)) ∧ true = true))))) (by kernel_rfl) ?_
  unfold T4 T9
  have hf : fitsB ((⟨#[]⟩ : ByteArray), (⟨#[]⟩ : ByteArray)) [(16, 0, 0, 0, (⟨#[]⟩ : ByteArray), (⟨#[]⟩ : ByteArray))] = true := hi_fits
  have hp : putB ((⟨#[]⟩ : ByteArray), (⟨#[]⟩ : ByteArray)) [(16, 0, 0, 0, (⟨#[]⟩ : ByteArray), (⟨#[]⟩ : ByteArray))] = (hiS, (⟨#[]⟩ : ByteArray)) := hi_put
  try simp only [hf, hp]
  simp only [SI2A, eq_self]
  repeat' (with_reducible first | exact trivial | apply And.intro | intro _)
  all_goals first
    | (with_reducible trivial)
    | omega
    | (with_reducible assumption)
    | (exact Nat.le_add_left _ _)
    | (show 1 ≤ 1048576; decide)
    | decide
    | rfl
def e_s_SessionNew : Entry Tryz.prog := ⟨5, [], fun x => True, fun x => .ag [.bool sesN.1, .int .i64 sesN.2.1, .int .i64 sesN.2.2.1, .int .i64 sesN.2.2.2.1, .row 0 0, .bool sesN.2.2.2.2.2.1.1, .row 1 0, .str sesN.2.2.2.2.2.2.1, .str sesN.2.2.2.2.2.2.2.1, .row 2 0, .bool sesN.2.2.2.2.2.2.2.2.1.2.1, .bool sesN.2.2.2.2.2.2.2.2.1.2.2, .str sesN.2.2.2.2.2.2.2.2.2.1.1, .bool sesN.2.2.2.2.2.2.2.2.2.1.2, .str sesN.2.2.2.2.2.2.2.2.2.2.1.1, .str sesN.2.2.2.2.2.2.2.2.2.2.1.2, .int .i64 sesN.2.2.2.2.2.2.2.2.2.2.2], fun x => [.row tySpan sesN.2.2.2.2.1 0 0 none, .row tyScope sesN.2.2.2.2.2.1.2 0 0 none, .row tyNote sesN.2.2.2.2.2.2.2.2.1.1 0 0 none], fun x hx => b_s_SessionNew , Tryz.call5⟩
end Go.Proofs.YtklnpeckhbiloaaGreatDoor
