/-
  Commits on boxes of program and reference.
  No condition but what the arguments' cells hold. Printed by vcgen.py.
-/
import Derived.Test.YtoigkpkafgjeaaaGreatDoorOBlCom
import Derived.Test.YtoigkpkafgjeaaaGreatDoorOBlDel
import Derived.Test.YtoigkpkafgjeaaaGreatDoorOBlSort
import Derived.Test.YtoigkpkafgjeaaaGreatDoorOBxPerf
set_option linter.unusedSimpArgs false
set_option linter.unusedVariables false
set_option maxRecDepth 100000
set_option maxHeartbeats 4000000
namespace Go.Proofs.YtoigkpkafgjeaaaGreatDoor
open Go.ChangeShapes Go.WideShapes Go.ChangeAt Go.RowKit Go.Joins Go.Deep
open GoRep (rep bulk)

def k1i4goo (l : List GBox) (m : GCommit) : Prop := ((4 : Nat) = 4 ∧ (0 : Int) ≤ boxW l m.2.1 ∧ (boxW l m.2.1 : Int) < ((List.length l : Nat) : Int))
def k0i4goo (l : List GBox) (m : GCommit) : Prop := ((true = true ∧ true = true) ∧ (T2 ((k1i4goo l m) ∧ (T3 ((True ∧ true = true) ∧ (T2 (rB (geI (placeO (nth_Box l (Int.toNat (boxW l m.2.1))).2.2.2 m.2.2.1) 0) (appl l m))))))))
theorem b_s_Applies (l : List GBox) (m : GCommit) : BCalls Tryz.prog 91 [.c (.hs .no tyBox l), .ag (cellsOf tyCommit m)] (.c (.bool (appl l m))) [] := by
  refine bc0 [e_s_BoxesOk, e_s_CommitOk, e_s_BoxWith, e_s_BoxNamed, e_s_PlaceOf] [] [] [] L0 Tryz.func91 (fun hwf => ?_)
  refine Eq.mpr (β := (T3 ((True ∧ true = true) ∧ (T2 (bif (!(boxesOk l)) then (T2 (rB false (appl l m))) else (True ∧ ((True ∧ true = true) ∧ (T2 (bif (!(commitOk m)) then (True ∧ (rB false (appl l m))) else (T3 ((True ∧ true = true) ∧ (T4 ((True ∧ true = true) ∧ (T5 (bif (eqI m.1 1) then (T4 (bif (ltI ((List.length l : Nat) : Int) 4) then (T4 (bif (ltI (boxW l m.2.1) 0) then (T4 (rB (!(geI (boxIx l m.2.2.2.2.1) 0)) (appl l m))) else (T2 (rB false (appl l m))))) else (T4 (rB false (appl l m))))) else (T2 (bif (ltI (boxW l m.2.1) 0) then (True ∧ (rB false (appl l m))) else (T4 (bif (eqI m.1 3) then (T3 (rB (!(geI (boxIx l m.2.2.2.2.1) 0)) (appl l m))) else (T2 (bif (eqI m.1 4) then ((true = true ∧ true = true) ∧ (T2 ((k1i4goo l m) ∧ (T6 (bif (eqI (nth_Box l (Int.toNat (boxW l m.2.1))).2.2.1 m.2.2.1) then (T2 ((k1i4goo l m) ∧ (T6 (rB (ltI ((List.length (nth_Box l (Int.toNat (boxW l m.2.1))).2.2.2 : Nat) : Int) 6) (appl l m))))) else (T2 (rB false (appl l m)))))))) else (T2 (bif (eqI m.1 5) then (k0i4goo l m) else (T2 (bif (eqI m.1 6) then (k0i4goo l m) else (True ∧ (rB true (appl l m)))))))))))))))))))))))))))) (by kernel_rfl) ?_
  unfold k0i4goo k1i4goo T2 T3 T4 T5 T6
  have hw := boxW_lt l m.2.1
  simp only [btw_iff, btw_not, flagsOk, Bool.not_true, Bool.not_false, SI2A, eq_self]
  repeat' (first | apply And.intro | intro _)
  all_goals first
    | omega
    | (simp_all [appl]; done)
    | (try (have ha : appl l m = fitsB l m := by (unfold appl; rw [‹boxesOk l = true›, ‹commitOk m = true›]; rfl)
            rw [ha])
       rw [Bool.eq_iff_iff]
       simp only [bxB, fitsB_iff, ltI_true, geI_true, geN, Bool.false_eq_true, false_iff, true_iff]
       omega)
def e_s_Applies : Entry Tryz.prog := ⟨91, [.v (.list tyBox), .s tyCommit], fun x => True, fun x => .c (.bool (appl x.1 x.2.1)), fun _ => [], fun x hx => b_s_Applies x.1 x.2.1, Tryz.call91⟩
theorem b_s_l9Copy (b : GBox) (hpre : List.length b.2.2.2 ≤ 1048576) : BCalls Tryz.prog 108 [.ag (cellsOf tyBox b)] (.ag [.str b.1, .int .i64 b.2.1, .int .i64 b.2.2.1, .row 0 0]) [.row tyMsg b.2.2.2 0 0 none] := by
  refine bc0 [] [] [] [] L0 Tryz.func108 (fun hwf => ?_)
  refine Eq.mpr (β := (True ∧ (True ∧ (True ∧ (True ∧ (True ∧ ((True ∧ List.length ([] : List GMsg) + List.length b.2.2.2 ≤ rowMax) ∧ (True ∧ (True ∧ (True ∧ (True ∧ ((((true = true ∧ leC (.str b.1) (.str b.1)) ∧ (true = true ∧ leC (.int .i64 b.2.1) (.int .i64 b.2.1)) ∧ (true = true ∧ leC (.int .i64 b.2.2.1) (.int .i64 b.2.2.1)) ∧ ((([] : List GMsg) ++ b.2.2.2) = b.2.2.2) ∧ True)) ∧ true = true)))))))))))) (by kernel_rfl) ?_
  simp only [btw_iff, btw_not, flagsOk, Bool.not_true, Bool.not_false, SI2A, eq_self]
  first
    | (unfold rowMax; exact ⟨by simp; omega, rfl⟩)
    | (refine ⟨by unfold rowMax; omega, ?_⟩; trivial)
    | (unfold rowMax; omega)
def e_s_l9Copy : Entry Tryz.prog := ⟨108, [.s tyBox], fun x => List.length x.1.2.2.2 ≤ 1048576, fun x => .ag [.str x.1.1, .int .i64 x.1.2.1, .int .i64 x.1.2.2.1, .row 0 0], fun x => [.row tyMsg x.1.2.2.2 0 0 none], fun x hx => b_s_l9Copy x.1 hx, Tryz.call108⟩
def L_s_l9Copies (l : List GBox) : Nat → List AV → Mem → LoopA
  | 3, tm, M => ⟨Nat, fun y => (anyR (setA tm [(3, .c (.row 0 0)), (4, .c (.int .i64 ((y : Nat) : Int)))]) 5 15, setM M [(0, .row tyBox (List.take y l) 0 0 none)]), fun y => (y ≤ List.length l), fun y => (List.length l - y)⟩
  | _, _, _ => ⟨Unit, fun _ => ([], []), fun _ => False, fun _ => 0⟩
theorem b_s_l9Copies (l : List GBox) (hpre : smallB l) : BCalls Tryz.prog 90 [.c (.hs .no tyBox l)] (.c (.row 0 0)) [.row tyBox l 0 0 none] := by
  refine bc0 [e_s_l9Copy] [] [] [] (L_s_l9Copies l) Tryz.func90 (fun hwf => ?_)
  refine Eq.mpr (β := (T4 ((∃ q : Nat, (q ≤ List.length l) ∧ ((lxs [.c (.hs .no tyBox l), .tp [], .c (.raw (.slice none 0 0)), .c (.row 0 0)] (leV (.c (.int .i64 0)) (.c (.int .i64 ((q : Nat) : Int))) ∧ TN 15 (lxs [.tp []] True))) ∧ (leB (.row tyBox ([] : List GBox) 0 0 none) (.row tyBox (List.take q l) 0 0 none) ∧ True) ∧ true = true)) ∧ ∀ y0 : Nat, (y0 ≤ List.length l) → (T4 (bif (ltI ((y0 : Nat) : Int) ((List.length l : Nat) : Int)) then (T3 (((4 : Nat) = 4 ∧ (0 : Int) ≤ ((y0 : Nat) : Int) ∧ (((y0 : Nat) : Int) : Int) < ((List.length l : Nat) : Int)) ∧ (True ∧ ((List.length (nth_Box l (Int.toNat ((y0 : Nat) : Int))).2.2.2 ≤ 1048576 ∧ true = true) ∧ (True ∧ ((True ∧ List.length (List.take y0 l) + List.length ([(nth_Box l (Int.toNat ((y0 : Nat) : Int)))]) ≤ rowMax) ∧ (T4 (∃ y0' : Nat, (y0' ≤ List.length l) ∧ (List.length l - y0') < (List.length l - y0) ∧ ((lxs [.c (.hs .no tyBox l), .tp [], .c (.raw (.slice none 0 0)), .c (.row 0 0)] (leV (.c (.int .i64 (IntKind.wrap .i64 (((y0 : Nat) : Int) + 1)))) (.c (.int .i64 ((y0' : Nat) : Int))) ∧ TN 15 (lxs [.tp []] True))) ∧ (leB (.row tyBox (List.take y0 l ++ [(nth_Box l (Int.toNat ((y0 : Nat) : Int)))]) 0 0 none) (.row tyBox (List.take y0' l) 0 0 none) ∧ True) ∧ true = true))))))))) else (T2 (((List.take y0 l) = l) ∧ true = true))))))) (by kernel_rfl) ?_
  unfold T2 T3 T4
  obtain ⟨hp1, hp2⟩ := hpre
  simp only [btw_iff, btw_not, flagsOk, Bool.not_true, Bool.not_false, SI2A, eq_self]
  refine ⟨⟨0, Nat.zero_le _, rfl, Eq.mpr (leB_row (t := tyBox)) rfl⟩, fun k hk => ⟨fun hlt => ?_, fun hge => ?_⟩⟩
  · have hl : k < l.length := by omega
    have hg : l[k]? = some (nth_Box l k) := nth_getElem? (t := tyBox) hl
    have hs := smallB_nth ⟨hp1, hp2⟩ k
    have ht : List.take k l ++ [nth_Box l k] = List.take (k + 1) l := by
      rw [List.take_add_one, hg]
      rfl
    rw [ht]
    repeat' (first | apply And.intro | intro _)
    all_goals first
      | trivial
      | omega
      | (unfold rowMax; rw [List.length_take, List.length_singleton]; omega)
      | exact ⟨k + 1, by omega, by omega, wrapN (by unfold maxLen; omega), Eq.mpr (leB_row (t := tyBox)) rfl⟩
  · exact List.take_of_length_le (by omega)
def e_s_l9Copies : Entry Tryz.prog := ⟨90, [.v (.list tyBox)], fun x => smallB x.1, fun x => .c (.row 0 0), fun x => [.row tyBox x.1 0 0 none], fun x hx => b_s_l9Copies x.1 hx, Tryz.call90⟩
end Go.Proofs.YtoigkpkafgjeaaaGreatDoor
