/-
  Commits on boxes, one after the other.
  No condition but what the arguments' cells hold. Printed by vcgen.py.
-/
import Derived.Test.YtigebfhekmjhmaaGreatBlRen
set_option linter.unusedSimpArgs false
set_option linter.unusedVariables false
namespace Go.Proofs.YtigebfhekmjhmaaGreat
open Go.ChangeShapes Go.WideShapes Go.ChangeAt Go.RowKit Go.Joins Go.Deep
open GoRep (rep bulk)

theorem smallB_of {l : List GBox} (h1 : l.length ≤ 5) (h2 : ∀ x ∈ l, x.2.2.2.length ≤ 7) : smallB l := ⟨by omega, fun x hx => by have := h2 x hx; omega⟩
theorem smallB_perf {l : List GBox} {m : GCommit} (h : appl l m = true) : smallB (perfB l m) := by
  obtain ⟨h4, h6⟩ := appl_small h
  have hx : ∀ x ∈ l, x.2.2.2.length ≤ 6 := fun x hx => by
    obtain ⟨k, hk, rfl⟩ := List.mem_iff_getElem.1 hx
    have := h6 k
    rwa [show nth_Box l k = l[k] from nth_of_get (t := tyBox) (List.getElem?_eq_getElem hk)] at this
  have hlay : ∀ (k : List GBox) (b : GBox), k.length ≤ 4 → (∀ x ∈ k, x.2.2.2.length ≤ 6) → b.2.2.2.length ≤ 7 → smallB (layB k b) := fun k b h1 h2 h3 => smallB_of (by rw [(lay_perm k b).length_eq, List.length_cons]; omega) (fun x hx => by
    rcases lay_mem.1 hx with rfl | hx
    · exact h3
    · have := h2 x hx; omega)
  have hset : ∀ (k : Nat) (b : GBox), b.2.2.2.length ≤ 7 → smallB (l.set k b) := fun k b h3 => smallB_of (by rw [List.length_set]; omega) (fun x hx' => by
    rcases List.mem_or_eq_of_mem_set hx' with hx' | rfl
    · have := hx x hx'; omega
    · exact h3)
  have hso : ∀ k x, x ∈ outB l k → x.2.2.2.length ≤ 6 := fun k x hx' => hx x ((outB_sub l k).mem hx')
  have hlo : ∀ k, (outB l k).length ≤ 4 := fun k => Nat.le_trans (outB_sub l k).length_le h4
  have hb := h6 (bxK l m)
  unfold perfB
  split
  · exact hlay l _ h4 hx (Nat.zero_le _)
  · split
    · exact smallB_of (by have := hlo (bxK l m); omega) (fun x hx' => by have := hso _ x hx'; omega)
    · split
      · exact hlay _ _ (hlo _) (hso _) (by show (bxB l m).2.2.2.length ≤ 7; exact Nat.le_trans hb (by omega))
      · split
        · exact hset _ _ (by show (_ ++ _ : List GMsg).length ≤ 7; rw [List.length_append]; exact Nat.add_le_add hb (Nat.le_refl 1))
        · split
          · exact hset _ _ (by show (List.set _ _ _ : List GMsg).length ≤ 7; rw [List.length_set]; exact Nat.le_trans hb (by omega))
          · refine hset _ _ ?_
            show (outM _ _).length ≤ 7
            have : (outM (bxB l m).2.2.2 (placeO (bxB l m).2.2.2 m.2.2.1).toNat).length ≤ (bxB l m).2.2.2.length := by
              unfold outM
              rw [List.length_append, List.length_take, List.length_drop]
              omega
            exact Nat.le_trans this (Nat.le_trans hb (by omega))
def boxesAt (st : GStore) (n : Int) : List GBox := (appA [] (List.take (Int.toNat (min (max n 0) ((List.length st.2.1 : Nat) : Int))) st.2.1)).1
def L_i_AppliedAll (l : List GBox) (log : List GCommit) : Nat → List AV → Mem → LoopA
  | 3, tm, M => ⟨Nat × (List GBox), fun y => (setA tm [(4, .any), (5, .any), (6, .c (.row 0 0)), (8, .any), (10, .any), (13, .c (.int .i64 ((y.1 : Nat) : Int))), (14, .any), (15, .any), (16, .any), (17, .any), (18, .any), (19, .any), (20, .any), (21, .any), (22, .any), (23, .any), (24, .any), (25, .any)], setM M [(0, .row tyBox y.2 0 0 none)]), fun y => (y.1 ≤ List.length log ∧ smallB y.2 ∧ appA y.2 (List.drop y.1 log) = appA l log), fun y => (List.length log - y.1)⟩
  | _, _, _ => ⟨Unit, fun _ => ([], []), fun _ => False, fun _ => 0⟩
set_option maxRecDepth 100000 in
set_option maxHeartbeats 400000 in
theorem b_i_AppliedAll (l : List GBox) (log : List GCommit) (hpre : smallB l) : BCalls Tryz.prog 161 [.c (.hs .no tyBox l), .c (.hs .no tyCommit log)] (.tp [.c (.row 0 0), .c (.bool (appA l log).2)]) [.row tyBox ((appA l log).1) 0 0 none] := by
  refine bcalls_of (T := ⟨[e_i_copyBoxes, e_i_Applies], [], [], [e_i_perform], none, fun _ => [], 0, [], []⟩) (L := (L_i_AppliedAll l log)) Tryz.func161 ⟨⟨rfl, rfl⟩, rfl⟩ (fun hwf => ?_)
  refine Eq.mpr (β := (True ∧ (True ∧ (True ∧ ((smallB l ∧ true = true) ∧ (True ∧ (True ∧ (True ∧ (True ∧ ((∃ q : Nat × (List GBox), (q.1 ≤ List.length log ∧ smallB q.2 ∧ appA q.2 (List.drop q.1 log) = appA l log) ∧ ((leV (.c (.hs .no tyBox l)) (.c (.hs .no tyBox l)) ∧ leV (.c (.hs .no tyCommit log)) (.c (.hs .no tyCommit log)) ∧ leV (.tp []) (.tp []) ∧ leV (.tp []) (.tp []) ∧ True ∧ True ∧ leV (.c (.row 0 0)) (.c (.row 0 0)) ∧ leV (.tp []) (.tp []) ∧ True ∧ leV (.c (.hs .no tyBox l)) (.c (.hs .no tyBox l)) ∧ True ∧ leV (.c (.hs .no tyCommit log)) (.c (.hs .no tyCommit log)) ∧ leV (.c (.int .i64 ((List.length log : Nat) : Int))) (.c (.int .i64 ((List.length log : Nat) : Int))) ∧ leV (.c (.int .i64 0)) (.c (.int .i64 ((q.1 : Nat) : Int))) ∧ True ∧ True ∧ True ∧ True ∧ True ∧ True ∧ True ∧ True ∧ True ∧ True ∧ True ∧ True ∧ leV (.tp []) (.tp []) ∧ True) ∧ (leB (.row tyBox l 0 0 none) (.row tyBox q.2 0 0 none) ∧ True) ∧ true = true)) ∧ ∀ y0 : Nat × (List GBox), (y0.1 ≤ List.length log ∧ smallB y0.2 ∧ appA y0.2 (List.drop y0.1 log) = appA l log) → (True ∧ (bif (ltI ((y0.1 : Nat) : Int) ((List.length log : Nat) : Int)) then (((6 : Nat) = 6 ∧ (0 : Int) ≤ ((y0.1 : Nat) : Int) ∧ (((y0.1 : Nat) : Int) : Int) < ((List.length log : Nat) : Int)) ∧ (True ∧ (True ∧ (True ∧ (True ∧ (True ∧ ((True ∧ true = true ∧ true = true) ∧ (True ∧ (bif (!(appl y0.2 (nth_Commit log (Int.toNat ((y0.1 : Nat) : Int))))) then (True ∧ (True ∧ (True ∧ ((((y0.2 = ((appA l log).1)) ∧ (true = true ∧ leC (.bool false) (.bool (appA l log).2)) ∧ True)) ∧ true = true)))) else (True ∧ (True ∧ (((appl y0.2 (nth_Commit log (Int.toNat ((y0.1 : Nat) : Int))) = true ∧ ((y0.2 = y0.2) ∧ True)) ∧ true = true) ∧ ∀ r1 : List GBox, r1 = ([] : List GBox) → (True ∧ (True ∧ (True ∧ (∃ y0' : Nat × (List GBox), (y0'.1 ≤ List.length log ∧ smallB y0'.2 ∧ appA y0'.2 (List.drop y0'.1 log) = appA l log) ∧ (List.length log - y0'.1) < (List.length log - y0.1) ∧ ((leV (.c (.hs .no tyBox l)) (.c (.hs .no tyBox l)) ∧ leV (.c (.hs .no tyCommit log)) (.c (.hs .no tyCommit log)) ∧ leV (.tp []) (.tp []) ∧ leV (.tp []) (.tp []) ∧ True ∧ True ∧ leV (.c (.row 0 0)) (.c (.row 0 0)) ∧ leV (.tp []) (.tp []) ∧ True ∧ leV (.c (.hs .no tyBox l)) (.c (.hs .no tyBox l)) ∧ True ∧ leV (.c (.hs .no tyCommit log)) (.c (.hs .no tyCommit log)) ∧ leV (.c (.int .i64 ((List.length log : Nat) : Int))) (.c (.int .i64 ((List.length log : Nat) : Int))) ∧ leV (.c (.int .i64 (IntKind.wrap .i64 (((y0.1 : Nat) : Int) + 1)))) (.c (.int .i64 ((y0'.1 : Nat) : Int))) ∧ True ∧ True ∧ True ∧ True ∧ True ∧ True ∧ True ∧ True ∧ True ∧ True ∧ True ∧ True ∧ leV (.tp []) (.tp []) ∧ True) ∧ (leB (.row tyBox (perfB y0.2 (nth_Commit log (Int.toNat ((y0.1 : Nat) : Int)))) 0 0 none) (.row tyBox y0'.2 0 0 none) ∧ True) ∧ true = true))))))))))))))))) else (True ∧ (True ∧ (True ∧ ((((y0.2 = ((appA l log).1)) ∧ (true = true ∧ leC (.bool true) (.bool (appA l log).2)) ∧ True)) ∧ true = true)))))))))))))))) (by kernel_rfl) ?_
  simp only [btw_iff, btw_not, flagsOk, Bool.not_true, Bool.not_false, true_and, and_true, cond_iff, eqI_true, eqI_false, neI_true, neI_false, ltI_true, ltI_false, leI_true, leI_false, gtI_true, gtI_false, geI_true, geI_false, eqS_true, eqS_false, eqO_true, eqO_false, not_true, not_false, Bool.not_eq_true', Bool.not_eq_false', eq_self, leV_any, leV_int, leV_bool, leV_str, leV_refl, leB_refl, leC_int, leC_bool, leC_str, leC_hs, leB_row, leB_rowInt, leB_rowStr, leB_rowBool, leB_rowToken, leB_rowSpan, leB_rowScope, leB_rowFilter, leB_rowCommand, leB_rowMsg, leB_rowBox, leB_rowCommit, leB_rowStore, leB_rowClient, leB_rowNote, leB_rowQueue, leB_rowOut, leB_rowIn, leB_rowSession, leB_rowServer, leB_rowOutcome, Int.toNat_natCast]
  have hml : List.length log ≤ maxLen := hwf.2.1.1
  unfold maxLen at hml
  refine ⟨hpre, ⟨(0, l), ⟨Nat.zero_le _, hpre, rfl⟩, rfl, rfl⟩, fun ⟨k, ys⟩ ⟨h1, h2, h3⟩ => ⟨fun hlt => ?_, fun hge => ?_⟩⟩
  · have hlt : k < log.length := by simpa using hlt
    have hd : appA ys (List.drop k log) = if appl ys (nth_Commit log k) = true then appA (perfB ys (nth_Commit log k)) (List.drop (k + 1) log) else (ys, false) := by
      rw [List.drop_eq_getElem_cons hlt, ← nth_of_get (t := tyCommit) (List.getElem?_eq_getElem hlt)]
      rfl
    have h3 : appA ys (List.drop k log) = appA l log := h3
    rw [hd] at h3
    have h2 : smallB ys := h2
    have hp : ∀ h : appl ys (nth_Commit log k) = true, apB ys (nth_Commit log k) = perfB ys (nth_Commit log k) := fun h => by
      unfold apB
      rw [h]
      rfl
    first
      | refine ⟨⟨Int.natCast_nonneg _, by show ((k : Nat) : Int) < _; omega⟩, fun hf => ?_, fun hf => ⟨hf, fun r1 _ => ⟨(k + 1, perfB ys (nth_Commit log k)), ⟨hlt, smallB_perf hf, ?_⟩, ?_, wrapN (by show k + 1 ≤ _; unfold maxLen; omega), rfl⟩⟩⟩
      | refine ⟨⟨Int.natCast_nonneg _, by show ((k : Nat) : Int) < _; omega⟩, h2, fun hf => ?_, fun hf => ⟨(k + 1, perfB ys (nth_Commit log k)), ⟨hlt, smallB_perf hf, ?_⟩, ?_, wrapN (by show k + 1 ≤ _; unfold maxLen; omega), hp hf⟩⟩
    · have hf : appl ys (nth_Commit log k) = false := hf
      rw [if_neg (by rw [hf]; decide)] at h3
      rw [← h3]
      exact ⟨rfl, rfl⟩
    · have hf : appl ys (nth_Commit log k) = true := hf
      rw [if_pos hf] at h3
      exact h3
    · show _ - (k + 1) < _ - k
      omega
  · obtain rfl : k = log.length := by have : ¬ ((k : Nat) : Int) < _ := hge; omega
    have h3 : appA ys (List.drop log.length log) = appA l log := h3
    rw [List.drop_length] at h3
    rw [← h3]
    exact ⟨rfl, rfl⟩
def e_i_AppliedAll : Entry Tryz.prog := ⟨161, [.v (.list tyBox), .v (.list tyCommit)], fun x => smallB x.1, fun x => .tp [.c (.row 0 0), .c (.bool (appA x.1 x.2.1).2)], fun x => [.row tyBox ((appA x.1 x.2.1).1) 0 0 none], fun x hx => b_i_AppliedAll x.1 x.2.1 hx, Tryz.call161⟩
def L_s_AppliedAll (l : List GBox) (log : List GCommit) : Nat → List AV → Mem → LoopA
  | 3, tm, M => ⟨Nat × (List GBox), fun y => (setA tm [(4, .any), (5, .any), (6, .c (.row 0 0)), (7, .c (.int .i64 ((y.1 : Nat) : Int))), (8, .any), (9, .any), (11, .any), (12, .any), (13, .any), (14, .any), (15, .any), (16, .any), (17, .any), (18, .any), (19, .any), (20, .any), (21, .any), (22, .any), (23, .any), (24, .any), (25, .any), (26, .any), (27, .any), (28, .any), (29, .any), (30, .any)], setM M [(0, .row tyBox y.2 0 0 none)]), fun y => (y.1 ≤ List.length log ∧ smallB y.2 ∧ appA y.2 (List.drop y.1 log) = appA l log), fun y => (List.length log - y.1)⟩
  | _, _, _ => ⟨Unit, fun _ => ([], []), fun _ => False, fun _ => 0⟩
set_option maxRecDepth 100000 in
set_option maxHeartbeats 400000 in
theorem b_s_AppliedAll (l : List GBox) (log : List GCommit) (hpre : smallB l) : BCalls Tryz.prog 149 [.c (.hs .no tyBox l), .c (.hs .no tyCommit log)] (.tp [.c (.row 0 0), .c (.bool (appA l log).2)]) [.row tyBox ((appA l log).1) 0 0 none] := by
  refine bcalls_of (T := ⟨[e_s_l9Copies, e_s_Applied], [], [], [], none, fun _ => [], 0, [], []⟩) (L := (L_s_AppliedAll l log)) Tryz.func149 ⟨⟨rfl, rfl⟩, rfl⟩ (fun hwf => ?_)
  refine Eq.mpr (β := (True ∧ (True ∧ (True ∧ ((smallB l ∧ true = true) ∧ (True ∧ (True ∧ ((∃ q : Nat × (List GBox), (q.1 ≤ List.length log ∧ smallB q.2 ∧ appA q.2 (List.drop q.1 log) = appA l log) ∧ ((leV (.c (.hs .no tyBox l)) (.c (.hs .no tyBox l)) ∧ leV (.c (.hs .no tyCommit log)) (.c (.hs .no tyCommit log)) ∧ leV (.tp []) (.tp []) ∧ leV (.tp []) (.tp []) ∧ True ∧ True ∧ leV (.c (.row 0 0)) (.c (.row 0 0)) ∧ leV (.c (.int .i64 0)) (.c (.int .i64 ((q.1 : Nat) : Int))) ∧ True ∧ True ∧ leV (.c (.hs .no tyBox l)) (.c (.hs .no tyBox l)) ∧ True ∧ True ∧ True ∧ True ∧ True ∧ True ∧ True ∧ True ∧ True ∧ True ∧ True ∧ True ∧ True ∧ True ∧ True ∧ True ∧ True ∧ True ∧ True ∧ True ∧ leV (.tp []) (.tp []) ∧ True) ∧ (leB (.row tyBox l 0 0 none) (.row tyBox q.2 0 0 none) ∧ True) ∧ true = true)) ∧ ∀ y0 : Nat × (List GBox), (y0.1 ≤ List.length log ∧ smallB y0.2 ∧ appA y0.2 (List.drop y0.1 log) = appA l log) → (True ∧ (True ∧ (True ∧ (True ∧ (bif (ltI ((y0.1 : Nat) : Int) ((List.length log : Nat) : Int)) then (True ∧ (True ∧ (True ∧ (((6 : Nat) = 6 ∧ (0 : Int) ≤ ((y0.1 : Nat) : Int) ∧ (((y0.1 : Nat) : Int) : Int) < ((List.length log : Nat) : Int)) ∧ (True ∧ ((preP y0.2 (nth_Commit log (Int.toNat ((y0.1 : Nat) : Int))) ∧ true = true ∧ true = true) ∧ (True ∧ (True ∧ (True ∧ (True ∧ (True ∧ (True ∧ (True ∧ (bif (!(appl y0.2 (nth_Commit log (Int.toNat ((y0.1 : Nat) : Int))))) then (True ∧ (True ∧ (True ∧ ((((y0.2 = ((appA l log).1)) ∧ (true = true ∧ leC (.bool false) (.bool (appA l log).2)) ∧ True)) ∧ true = true)))) else (True ∧ (True ∧ (True ∧ (True ∧ (True ∧ (∃ y0' : Nat × (List GBox), (y0'.1 ≤ List.length log ∧ smallB y0'.2 ∧ appA y0'.2 (List.drop y0'.1 log) = appA l log) ∧ (List.length log - y0'.1) < (List.length log - y0.1) ∧ ((leV (.c (.hs .no tyBox l)) (.c (.hs .no tyBox l)) ∧ leV (.c (.hs .no tyCommit log)) (.c (.hs .no tyCommit log)) ∧ leV (.tp []) (.tp []) ∧ leV (.tp []) (.tp []) ∧ True ∧ True ∧ leV (.c (.row 0 0)) (.c (.row 0 0)) ∧ leV (.c (.int .i64 (IntKind.wrap .i64 (((y0.1 : Nat) : Int) + 1)))) (.c (.int .i64 ((y0'.1 : Nat) : Int))) ∧ True ∧ True ∧ leV (.c (.hs .no tyBox l)) (.c (.hs .no tyBox l)) ∧ True ∧ True ∧ True ∧ True ∧ True ∧ True ∧ True ∧ True ∧ True ∧ True ∧ True ∧ True ∧ True ∧ True ∧ True ∧ True ∧ True ∧ True ∧ True ∧ True ∧ leV (.tp []) (.tp []) ∧ True) ∧ (leB (.row tyBox (apB y0.2 (nth_Commit log (Int.toNat ((y0.1 : Nat) : Int)))) 0 0 none) (.row tyBox y0'.2 0 0 none) ∧ True) ∧ true = true))))))))))))))))))))) else (True ∧ (True ∧ (True ∧ ((((y0.2 = ((appA l log).1)) ∧ (true = true ∧ leC (.bool true) (.bool (appA l log).2)) ∧ True)) ∧ true = true))))))))))))))))) (by kernel_rfl) ?_
  simp only [btw_iff, btw_not, flagsOk, Bool.not_true, Bool.not_false, true_and, and_true, cond_iff, eqI_true, eqI_false, neI_true, neI_false, ltI_true, ltI_false, leI_true, leI_false, gtI_true, gtI_false, geI_true, geI_false, eqS_true, eqS_false, eqO_true, eqO_false, not_true, not_false, Bool.not_eq_true', Bool.not_eq_false', eq_self, leV_any, leV_int, leV_bool, leV_str, leV_refl, leB_refl, leC_int, leC_bool, leC_str, leC_hs, leB_row, leB_rowInt, leB_rowStr, leB_rowBool, leB_rowToken, leB_rowSpan, leB_rowScope, leB_rowFilter, leB_rowCommand, leB_rowMsg, leB_rowBox, leB_rowCommit, leB_rowStore, leB_rowClient, leB_rowNote, leB_rowQueue, leB_rowOut, leB_rowIn, leB_rowSession, leB_rowServer, leB_rowOutcome, Int.toNat_natCast]
  have hml : List.length log ≤ maxLen := hwf.2.1.1
  unfold maxLen at hml
  refine ⟨hpre, ⟨(0, l), ⟨Nat.zero_le _, hpre, rfl⟩, rfl, rfl⟩, fun ⟨k, ys⟩ ⟨h1, h2, h3⟩ => ⟨fun hlt => ?_, fun hge => ?_⟩⟩
  · have hlt : k < log.length := by simpa using hlt
    have hd : appA ys (List.drop k log) = if appl ys (nth_Commit log k) = true then appA (perfB ys (nth_Commit log k)) (List.drop (k + 1) log) else (ys, false) := by
      rw [List.drop_eq_getElem_cons hlt, ← nth_of_get (t := tyCommit) (List.getElem?_eq_getElem hlt)]
      rfl
    have h3 : appA ys (List.drop k log) = appA l log := h3
    rw [hd] at h3
    have h2 : smallB ys := h2
    have hp : ∀ h : appl ys (nth_Commit log k) = true, apB ys (nth_Commit log k) = perfB ys (nth_Commit log k) := fun h => by
      unfold apB
      rw [h]
      rfl
    first
      | refine ⟨⟨Int.natCast_nonneg _, by show ((k : Nat) : Int) < _; omega⟩, fun hf => ?_, fun hf => ⟨hf, fun r1 _ => ⟨(k + 1, perfB ys (nth_Commit log k)), ⟨hlt, smallB_perf hf, ?_⟩, ?_, wrapN (by show k + 1 ≤ _; unfold maxLen; omega), rfl⟩⟩⟩
      | refine ⟨⟨Int.natCast_nonneg _, by show ((k : Nat) : Int) < _; omega⟩, h2, fun hf => ?_, fun hf => ⟨(k + 1, perfB ys (nth_Commit log k)), ⟨hlt, smallB_perf hf, ?_⟩, ?_, wrapN (by show k + 1 ≤ _; unfold maxLen; omega), hp hf⟩⟩
    · have hf : appl ys (nth_Commit log k) = false := hf
      rw [if_neg (by rw [hf]; decide)] at h3
      rw [← h3]
      exact ⟨rfl, rfl⟩
    · have hf : appl ys (nth_Commit log k) = true := hf
      rw [if_pos hf] at h3
      exact h3
    · show _ - (k + 1) < _ - k
      omega
  · obtain rfl : k = log.length := by have : ¬ ((k : Nat) : Int) < _ := hge; omega
    have h3 : appA ys (List.drop log.length log) = appA l log := h3
    rw [List.drop_length] at h3
    rw [← h3]
    exact ⟨rfl, rfl⟩
def e_s_AppliedAll : Entry Tryz.prog := ⟨149, [.v (.list tyBox), .v (.list tyCommit)], fun x => smallB x.1, fun x => .tp [.c (.row 0 0), .c (.bool (appA x.1 x.2.1).2)], fun x => [.row tyBox ((appA x.1 x.2.1).1) 0 0 none], fun x hx => b_s_AppliedAll x.1 x.2.1 hx, Tryz.call149⟩
set_option maxRecDepth 100000 in
set_option maxHeartbeats 400000 in
theorem b_i_BoxesAt (st : GStore) (n : Int) : BCalls Tryz.prog 127 [.ag [.hs .no tyBox st.1, .hs .no tyCommit st.2.1, .int .i64 st.2.2], .c (.int .i64 n)] (.c (.row 0 0)) [.row tyBox (boxesAt st n) 0 0 none] := by
  refine bcalls_of (T := ⟨[e_i_AppliedAll], [], [], [], none, fun _ => [], 0, [], []⟩) (L := L0) Tryz.func127 ⟨⟨rfl, rfl⟩, rfl⟩ (fun hwf => ?_)
  refine Eq.mpr (β := (True ∧ (True ∧ (True ∧ (True ∧ (True ∧ (IntKind.i64 = IntKind.i64 ∧ (True ∧ (True ∧ (True ∧ (IntKind.i64 = IntKind.i64 ∧ (((6 : Nat) = 6 ∧ ((0 : Int) ≤ 0 ∧ (0 : Int) ≤ (if (((List.length st.2.1 : Nat) : Int) : Int) < (if (0 : Int) > n then 0 else n) then ((List.length st.2.1 : Nat) : Int) else (if (0 : Int) > n then 0 else n)) ∧ ((if (((List.length st.2.1 : Nat) : Int) : Int) < (if (0 : Int) > n then 0 else n) then ((List.length st.2.1 : Nat) : Int) else (if (0 : Int) > n then 0 else n)) : Int) ≤ ((List.length st.2.1 : Nat) : Int))) ∧ ((smallB ([] : List GBox) ∧ true = true) ∧ (True ∧ (True ∧ (True ∧ (True ∧ (True ∧ (True ∧ (True ∧ ((((appA ([] : List GBox) (List.drop (Int.toNat 0) (List.take (Int.toNat (if (((List.length st.2.1 : Nat) : Int) : Int) < (if (0 : Int) > n then 0 else n) then ((List.length st.2.1 : Nat) : Int) else (if (0 : Int) > n then 0 else n))) st.2.1))).1) = (boxesAt st n)) ∧ true = true))))))))))))))))))))) (by kernel_rfl) ?_
  simp only [btw_iff, btw_not, flagsOk, Bool.not_true, Bool.not_false, true_and, and_true, cond_iff, eqI_true, eqI_false, neI_true, neI_false, ltI_true, ltI_false, leI_true, leI_false, gtI_true, gtI_false, geI_true, geI_false, eqS_true, eqS_false, eqO_true, eqO_false, not_true, not_false, Bool.not_eq_true', Bool.not_eq_false', eq_self, leV_any, leV_int, leV_bool, leV_str, leV_refl, leB_refl, leC_int, leC_bool, leC_str, leC_hs, leB_row, leB_rowInt, leB_rowStr, leB_rowBool, leB_rowToken, leB_rowSpan, leB_rowScope, leB_rowFilter, leB_rowCommand, leB_rowMsg, leB_rowBox, leB_rowCommit, leB_rowStore, leB_rowClient, leB_rowNote, leB_rowQueue, leB_rowOut, leB_rowIn, leB_rowSession, leB_rowServer, leB_rowOutcome, Int.toNat_natCast]
  have hz : smallB ([] : List GBox) := ⟨Nat.zero_le _, fun x hx => by cases hx⟩
  unfold boxesAt
  rw [Int.toNat_zero, List.drop_zero]
  refine ⟨?_, hz, ?_⟩
  · repeat' (first | apply And.intro | split)
    all_goals omega
  · congr 4
    repeat' split
    all_goals omega
def e_i_BoxesAt : Entry Tryz.prog := ⟨127, [.s tyStore, .v tyInt], fun x => True, fun x => .c (.row 0 0), fun x => [.row tyBox (boxesAt x.1 x.2.1) 0 0 none], fun x hx => b_i_BoxesAt x.1 x.2.1, Tryz.call127⟩
set_option maxRecDepth 100000 in
set_option maxHeartbeats 400000 in
theorem b_s_BoxesAt (st : GStore) (n : Int) : BCalls Tryz.prog 124 [.ag [.hs .no tyBox st.1, .hs .no tyCommit st.2.1, .int .i64 st.2.2], .c (.int .i64 n)] (.c (.row 0 0)) [.row tyBox (boxesAt st n) 0 0 none] := by
  refine bcalls_of (T := ⟨[e_s_l1Min, e_s_l1Max, e_s_AppliedAll], [], [], [], none, fun _ => [], 0, [], []⟩) (L := L0) Tryz.func124 ⟨⟨rfl, rfl⟩, rfl⟩ (fun hwf => ?_)
  refine Eq.mpr (β := (True ∧ (True ∧ ((true = true ∧ true = true) ∧ (True ∧ (True ∧ (True ∧ (True ∧ (True ∧ (True ∧ ((True ∧ true = true) ∧ ((True ∧ true = true) ∧ (((6 : Nat) = 6 ∧ ((0 : Int) ≤ 0 ∧ (0 : Int) ≤ max 0 (min n ((List.length st.2.1 : Nat) : Int)) ∧ (max 0 (min n ((List.length st.2.1 : Nat) : Int)) : Int) ≤ ((List.length st.2.1 : Nat) : Int))) ∧ ((smallB ([] : List GBox) ∧ true = true) ∧ (True ∧ (True ∧ (True ∧ (True ∧ (True ∧ (True ∧ (True ∧ ((((appA ([] : List GBox) (List.drop (Int.toNat 0) (List.take (Int.toNat (max 0 (min n ((List.length st.2.1 : Nat) : Int)))) st.2.1))).1) = (boxesAt st n)) ∧ true = true)))))))))))))))))))))) (by kernel_rfl) ?_
  simp only [btw_iff, btw_not, flagsOk, Bool.not_true, Bool.not_false, true_and, and_true, cond_iff, eqI_true, eqI_false, neI_true, neI_false, ltI_true, ltI_false, leI_true, leI_false, gtI_true, gtI_false, geI_true, geI_false, eqS_true, eqS_false, eqO_true, eqO_false, not_true, not_false, Bool.not_eq_true', Bool.not_eq_false', eq_self, leV_any, leV_int, leV_bool, leV_str, leV_refl, leB_refl, leC_int, leC_bool, leC_str, leC_hs, leB_row, leB_rowInt, leB_rowStr, leB_rowBool, leB_rowToken, leB_rowSpan, leB_rowScope, leB_rowFilter, leB_rowCommand, leB_rowMsg, leB_rowBox, leB_rowCommit, leB_rowStore, leB_rowClient, leB_rowNote, leB_rowQueue, leB_rowOut, leB_rowIn, leB_rowSession, leB_rowServer, leB_rowOutcome, Int.toNat_natCast]
  have hz : smallB ([] : List GBox) := ⟨Nat.zero_le _, fun x hx => by cases hx⟩
  unfold boxesAt
  rw [Int.toNat_zero, List.drop_zero]
  refine ⟨?_, hz, ?_⟩
  · repeat' (first | apply And.intro | split)
    all_goals omega
  · congr 4
    repeat' split
    all_goals omega
def e_s_BoxesAt : Entry Tryz.prog := ⟨124, [.s tyStore, .v tyInt], fun x => True, fun x => .c (.row 0 0), fun x => [.row tyBox (boxesAt x.1 x.2.1) 0 0 none], fun x hx => b_s_BoxesAt x.1 x.2.1, Tryz.call124⟩
end Go.Proofs.YtigebfhekmjhmaaGreat
