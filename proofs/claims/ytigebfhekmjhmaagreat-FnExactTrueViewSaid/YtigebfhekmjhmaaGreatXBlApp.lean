/-
  Commits on boxes of program and reference.
  No condition but what the arguments' cells hold. Printed by vcgen.py.
-/
import Derived.Test.YtigebfhekmjhmaaGreatXBlCom
import Derived.Test.YtigebfhekmjhmaaGreatXBlDel
import Derived.Test.YtigebfhekmjhmaaGreatXBlSort
import Derived.Test.YtigebfhekmjhmaaGreatXBxPerf
set_option linter.unusedSimpArgs false
set_option linter.unusedVariables false
namespace Go.Proofs.YtigebfhekmjhmaaGreat
open Go.ChangeShapes Go.WideShapes Go.ChangeAt Go.RowKit Go.Joins Go.Deep
open GoRep (rep bulk)

def k2fxued (l : List GBox) (m : GCommit) : Prop := ((4 : Nat) = 4 ∧ (0 : Int) ≤ boxW l m.2.1 ∧ (boxW l m.2.1 : Int) < ((List.length l : Nat) : Int))
def k0fxued (l : List GBox) (m : GCommit) : Prop := ((true = true ∧ true = true) ∧ (T2 ((k2fxued l m) ∧ (T3 ((True ∧ true = true) ∧ (T2 ((true = true ∧ leC (.bool (geI (placeO (nth_Box l (Int.toNat (boxW l m.2.1))).2.2.2 m.2.2.1) 0)) (.bool (fitsB l m))) ∧ true = true)))))))
def k1fxued (l : List GBox) (m : GCommit) : Prop := (True ∧ ((true = true ∧ leC (.bool false) (.bool (fitsB l m))) ∧ true = true))
set_option maxRecDepth 100000 in
set_option maxHeartbeats 400000 in
theorem b_i_fitsBoxes (l : List GBox) (m : GCommit) : BCalls Tryz.prog 270 [.c (.hs .no tyBox l), .ag (cellsOf tyCommit m)] (.c (.bool (fitsB l m))) [] := by
  refine bcalls_of (T := ⟨[e_i_BoxWith, e_i_BoxNamed, e_i_PlaceOf], [], [], [], none, fun _ => [], 0, [], []⟩) (L := L0) Tryz.func270 ⟨⟨rfl, rfl⟩, rfl⟩ (fun hwf => ?_)
  refine Eq.mpr (β := (T5 ((True ∧ true = true) ∧ (T4 (bif (eqI m.1 1) then (T4 (bif (ltI ((List.length l : Nat) : Int) 4) then (T4 (bif (ltI (boxW l m.2.1) 0) then (T3 ((True ∧ true = true) ∧ (T3 ((true = true ∧ leC (.bool (ltI (boxIx l m.2.2.2.2.1) 0)) (.bool (fitsB l m))) ∧ true = true)))) else (True ∧ (k1fxued l m)))) else (T3 (k1fxued l m)))) else (T2 (bif (ltI (boxW l m.2.1) 0) then (k1fxued l m) else (T4 (bif (eqI m.1 3) then (T3 ((True ∧ true = true) ∧ (T2 ((true = true ∧ leC (.bool (ltI (boxIx l m.2.2.2.2.1) 0)) (.bool (fitsB l m))) ∧ true = true)))) else (T2 (bif (eqI m.1 4) then ((true = true ∧ true = true) ∧ (T4 ((k2fxued l m) ∧ (T4 (bif (eqI m.2.2.1 (nth_Box l (Int.toNat (boxW l m.2.1))).2.2.1) then (T2 ((k2fxued l m) ∧ (T6 ((true = true ∧ leC (.bool (ltI ((List.length (nth_Box l (Int.toNat (boxW l m.2.1))).2.2.2 : Nat) : Int) 6)) (.bool (fitsB l m))) ∧ true = true)))) else (True ∧ (k1fxued l m))))))) else (T2 (bif (eqI m.1 5) then (k0fxued l m) else (T2 (bif (eqI m.1 6) then (k0fxued l m) else (True ∧ ((true = true ∧ leC (.bool true) (.bool (fitsB l m))) ∧ true = true))))))))))))))))) (by kernel_rfl) ?_
  unfold k1fxued k0fxued k2fxued T2 T3 T4 T5 T6
  have hw := boxW_lt l m.2.1
  simp only [btw_iff, btw_not, flagsOk, Bool.not_true, Bool.not_false, SI2A, eq_self]
  repeat' (first | apply And.intro | intro _)
  all_goals first
    | omega
    | (simp_all [appl]; done)
    | (try (have ha : appl l m = fitsB l m := by (unfold appl; rw [‹boxesOk l = true›, ‹commitOk m = true›]; rfl)
            rw [ha])
       rw [Bool.eq_iff_iff]
       simp only [bxB, fitsB_iff, ltI_true, geI_true, geN, Bool.false_eq_true, false_iff, true_iff]
       omega)
def e_i_fitsBoxes : Entry Tryz.prog := ⟨270, [.v (.list tyBox), .s tyCommit], fun x => True, fun x => .c (.bool (fitsB x.1 x.2.1)), fun _ => [], fun x hx => b_i_fitsBoxes x.1 x.2.1, Tryz.call270⟩
set_option maxRecDepth 100000 in
set_option maxHeartbeats 400000 in
theorem b_i_Applies (l : List GBox) (m : GCommit) : BCalls Tryz.prog 222 [.c (.hs .no tyBox l), .ag (cellsOf tyCommit m)] (.c (.bool (appl l m))) [] := by
  refine bcalls_of (T := ⟨[e_i_BoxesOk, e_i_CommitOk, e_i_fitsBoxes], [], [], [], none, fun _ => [], 0, [], []⟩) (L := L0) Tryz.func222 ⟨⟨rfl, rfl⟩, rfl⟩ (fun hwf => ?_)
  refine Eq.mpr (β := (True ∧ (True ∧ (True ∧ ((True ∧ true = true) ∧ (True ∧ (bif boxesOk l then (True ∧ ((True ∧ true = true) ∧ (True ∧ (True ∧ (bif commitOk m then (True ∧ (True ∧ ((True ∧ true = true) ∧ (True ∧ (True ∧ ((true = true ∧ leC (.bool (fitsB l m)) (.bool (appl l m))) ∧ true = true)))))) else (True ∧ (True ∧ ((true = true ∧ leC (.bool false) (.bool (appl l m))) ∧ true = true)))))))) else (True ∧ (True ∧ (True ∧ (True ∧ ((true = true ∧ leC (.bool false) (.bool (appl l m))) ∧ true = true)))))))))))) (by kernel_rfl) ?_
  simp only [btw_iff, btw_not, flagsOk, Bool.not_true, Bool.not_false, SI2A, eq_self]
  repeat' (first | apply And.intro | intro _)
  all_goals first
    | (simp_all [appl]; done)
def e_i_Applies : Entry Tryz.prog := ⟨222, [.v (.list tyBox), .s tyCommit], fun x => True, fun x => .c (.bool (appl x.1 x.2.1)), fun _ => [], fun x hx => b_i_Applies x.1 x.2.1, Tryz.call222⟩
def k2i4goo (l : List GBox) (m : GCommit) : Prop := ((4 : Nat) = 4 ∧ (0 : Int) ≤ boxW l m.2.1 ∧ (boxW l m.2.1 : Int) < ((List.length l : Nat) : Int))
def k0i4goo (l : List GBox) (m : GCommit) : Prop := ((true = true ∧ true = true) ∧ (T2 ((k2i4goo l m) ∧ (T3 ((True ∧ true = true) ∧ (T2 ((true = true ∧ leC (.bool (geI (placeO (nth_Box l (Int.toNat (boxW l m.2.1))).2.2.2 m.2.2.1) 0)) (.bool (appl l m))) ∧ true = true)))))))
def k1i4goo (l : List GBox) (m : GCommit) : Prop := (True ∧ ((true = true ∧ leC (.bool false) (.bool (appl l m))) ∧ true = true))
set_option maxRecDepth 100000 in
set_option maxHeartbeats 400000 in
theorem b_s_Applies (l : List GBox) (m : GCommit) : BCalls Tryz.prog 262 [.c (.hs .no tyBox l), .ag (cellsOf tyCommit m)] (.c (.bool (appl l m))) [] := by
  refine bcalls_of (T := ⟨[e_s_BoxesOk, e_s_CommitOk, e_s_BoxWith, e_s_BoxNamed, e_s_PlaceOf], [], [], [], none, fun _ => [], 0, [], []⟩) (L := L0) Tryz.func262 ⟨⟨rfl, rfl⟩, rfl⟩ (fun hwf => ?_)
  refine Eq.mpr (β := (T3 ((True ∧ true = true) ∧ (T2 (bif (!(boxesOk l)) then (True ∧ (k1i4goo l m)) else (True ∧ ((True ∧ true = true) ∧ (T2 (bif (!(commitOk m)) then (k1i4goo l m) else (T3 ((True ∧ true = true) ∧ (T4 ((True ∧ true = true) ∧ (T5 (bif (eqI m.1 1) then (T4 (bif (ltI ((List.length l : Nat) : Int) 4) then (T4 (bif (ltI (boxW l m.2.1) 0) then (T4 ((true = true ∧ leC (.bool (!(geI (boxIx l m.2.2.2.2.1) 0))) (.bool (appl l m))) ∧ true = true)) else (True ∧ (k1i4goo l m)))) else (T3 (k1i4goo l m)))) else (T2 (bif (ltI (boxW l m.2.1) 0) then (k1i4goo l m) else (T4 (bif (eqI m.1 3) then (T3 ((true = true ∧ leC (.bool (!(geI (boxIx l m.2.2.2.2.1) 0))) (.bool (appl l m))) ∧ true = true)) else (T2 (bif (eqI m.1 4) then ((true = true ∧ true = true) ∧ (T2 ((k2i4goo l m) ∧ (T6 (bif (eqI (nth_Box l (Int.toNat (boxW l m.2.1))).2.2.1 m.2.2.1) then (T2 ((k2i4goo l m) ∧ (T6 ((true = true ∧ leC (.bool (ltI ((List.length (nth_Box l (Int.toNat (boxW l m.2.1))).2.2.2 : Nat) : Int) 6)) (.bool (appl l m))) ∧ true = true)))) else (True ∧ (k1i4goo l m))))))) else (T2 (bif (eqI m.1 5) then (k0i4goo l m) else (T2 (bif (eqI m.1 6) then (k0i4goo l m) else (True ∧ ((true = true ∧ leC (.bool true) (.bool (appl l m))) ∧ true = true))))))))))))))))))))))))))) (by kernel_rfl) ?_
  unfold k1i4goo k0i4goo k2i4goo T2 T3 T4 T5 T6
  have hw := boxW_lt l m.2.1
  simp only [btw_iff, btw_not, flagsOk, Bool.not_true, Bool.not_false, SI2A, eq_self]
  repeat' (first | apply And.intro | intro _)
  all_goals first
    | omega
    | (simp_all [appl]; done)
    | (try (have ha : appl l m = fitsB l m := by (unfold appl; rw [‹boxesOk l = true›, ‹commitOk m = true›]; rfl)
            rw [ha])
       rw [Bool.eq_iff_iff]
       simp only [bxB, fitsB_iff, ltI_true, geI_true, geN, Bool.false_eq_true, false_iff, true_iff]
       omega)
def e_s_Applies : Entry Tryz.prog := ⟨262, [.v (.list tyBox), .s tyCommit], fun x => True, fun x => .c (.bool (appl x.1 x.2.1)), fun _ => [], fun x hx => b_s_Applies x.1 x.2.1, Tryz.call262⟩
set_option maxRecDepth 100000 in
set_option maxHeartbeats 400000 in
theorem b_i_copyBox (b : GBox) (hpre : List.length b.2.2.2 ≤ 1048576) : BCalls Tryz.prog 267 [.ag (cellsOf tyBox b)] (.ag [.str b.1, .int .i64 b.2.1, .int .i64 b.2.2.1, .row 0 0]) [.row tyMsg b.2.2.2 0 0 none] := by
  refine bcalls_of (T := ⟨[e_slices_Clone_i_Msg_i_Msg], [], [], [], none, fun _ => [], 0, [], []⟩) (L := L0) Tryz.func267 ⟨⟨rfl, rfl⟩, rfl⟩ (fun hwf => ?_)
  refine Eq.mpr (β := (True ∧ (True ∧ (True ∧ (True ∧ ((List.length b.2.2.2 ≤ rowMax ∧ true = true) ∧ (True ∧ (True ∧ (True ∧ (True ∧ ((((true = true ∧ leC (.str b.1) (.str b.1)) ∧ (true = true ∧ leC (.int .i64 b.2.1) (.int .i64 b.2.1)) ∧ (true = true ∧ leC (.int .i64 b.2.2.1) (.int .i64 b.2.2.1)) ∧ (b.2.2.2 = b.2.2.2) ∧ True)) ∧ true = true))))))))))) (by kernel_rfl) ?_
  simp only [btw_iff, btw_not, flagsOk, Bool.not_true, Bool.not_false, SI2A, eq_self]
  first
    | (unfold rowMax; exact ⟨by simp; omega, rfl⟩)
    | (refine ⟨by unfold rowMax; omega, ?_⟩; trivial)
    | (unfold rowMax; omega)
def e_i_copyBox : Entry Tryz.prog := ⟨267, [.s tyBox], fun x => List.length x.1.2.2.2 ≤ 1048576, fun x => .ag [.str x.1.1, .int .i64 x.1.2.1, .int .i64 x.1.2.2.1, .row 0 0], fun x => [.row tyMsg x.1.2.2.2 0 0 none], fun x hx => b_i_copyBox x.1 hx, Tryz.call267⟩
set_option maxRecDepth 100000 in
set_option maxHeartbeats 400000 in
theorem b_s_l9Copy (b : GBox) (hpre : List.length b.2.2.2 ≤ 1048576) : BCalls Tryz.prog 261 [.ag (cellsOf tyBox b)] (.ag [.str b.1, .int .i64 b.2.1, .int .i64 b.2.2.1, .row 0 0]) [.row tyMsg b.2.2.2 0 0 none] := by
  refine bcalls_of (T := ⟨[], [], [], [], none, fun _ => [], 0, [], []⟩) (L := L0) Tryz.func261 ⟨⟨rfl, rfl⟩, rfl⟩ (fun hwf => ?_)
  refine Eq.mpr (β := (True ∧ (True ∧ (True ∧ (True ∧ (True ∧ ((True ∧ List.length ([] : List GMsg) + List.length b.2.2.2 ≤ rowMax) ∧ (True ∧ (True ∧ (True ∧ (True ∧ ((((true = true ∧ leC (.str b.1) (.str b.1)) ∧ (true = true ∧ leC (.int .i64 b.2.1) (.int .i64 b.2.1)) ∧ (true = true ∧ leC (.int .i64 b.2.2.1) (.int .i64 b.2.2.1)) ∧ ((([] : List GMsg) ++ b.2.2.2) = b.2.2.2) ∧ True)) ∧ true = true)))))))))))) (by kernel_rfl) ?_
  simp only [btw_iff, btw_not, flagsOk, Bool.not_true, Bool.not_false, SI2A, eq_self]
  first
    | (unfold rowMax; exact ⟨by simp; omega, rfl⟩)
    | (refine ⟨by unfold rowMax; omega, ?_⟩; trivial)
    | (unfold rowMax; omega)
def e_s_l9Copy : Entry Tryz.prog := ⟨261, [.s tyBox], fun x => List.length x.1.2.2.2 ≤ 1048576, fun x => .ag [.str x.1.1, .int .i64 x.1.2.1, .int .i64 x.1.2.2.1, .row 0 0], fun x => [.row tyMsg x.1.2.2.2 0 0 none], fun x hx => b_s_l9Copy x.1 hx, Tryz.call261⟩
def L_i_copyBoxes (l : List GBox) : Nat → List AV → Mem → LoopA
  | 3, tm, M => ⟨Nat, fun y => (setA tm [(3, .c (.row 0 0)), (5, .any), (6, .any), (9, .c (.int .i64 ((y : Nat) : Int))), (10, .any), (11, .any), (12, .any), (13, .any), (14, .any), (15, .any), (16, .any), (17, .any), (18, .any)], setM M [(0, .row tyBox (List.take y l) 0 0 none)]), fun y => (y ≤ List.length l), fun y => (List.length l - y)⟩
  | _, _, _ => ⟨Unit, fun _ => ([], []), fun _ => False, fun _ => 0⟩
set_option maxRecDepth 100000 in
set_option maxHeartbeats 400000 in
theorem b_i_copyBoxes (l : List GBox) (hpre : smallB l) : BCalls Tryz.prog 221 [.c (.hs .no tyBox l)] (.c (.row 0 0)) [.row tyBox l 0 0 none] := by
  refine bcalls_of (T := ⟨[e_i_copyBox], [], [], [], none, fun _ => [], 0, [], []⟩) (L := (L_i_copyBoxes l)) Tryz.func221 ⟨⟨rfl, rfl⟩, rfl⟩ (fun hwf => ?_)
  refine Eq.mpr (β := (T6 ((∃ q : Nat, (q ≤ List.length l) ∧ ((leV (.c (.hs .no tyBox l)) (.c (.hs .no tyBox l)) ∧ leV (.tp []) (.tp []) ∧ leV (.c (.raw (.slice none 0 0))) (.c (.raw (.slice none 0 0))) ∧ leV (.c (.row 0 0)) (.c (.row 0 0)) ∧ leV (.tp []) (.tp []) ∧ True ∧ True ∧ leV (.c (.hs .no tyBox l)) (.c (.hs .no tyBox l)) ∧ leV (.c (.int .i64 ((List.length l : Nat) : Int))) (.c (.int .i64 ((List.length l : Nat) : Int))) ∧ leV (.c (.int .i64 0)) (.c (.int .i64 ((q : Nat) : Int))) ∧ True ∧ True ∧ True ∧ True ∧ True ∧ True ∧ True ∧ True ∧ True ∧ leV (.tp []) (.tp []) ∧ True) ∧ (leB (.row tyBox ([] : List GBox) 0 0 none) (.row tyBox (List.take q l) 0 0 none) ∧ True) ∧ true = true)) ∧ ∀ y0 : Nat, (y0 ≤ List.length l) → (True ∧ (bif (ltI ((y0 : Nat) : Int) ((List.length l : Nat) : Int)) then (((4 : Nat) = 4 ∧ (0 : Int) ≤ ((y0 : Nat) : Int) ∧ (((y0 : Nat) : Int) : Int) < ((List.length l : Nat) : Int)) ∧ (T5 ((List.length (nth_Box l (Int.toNat ((y0 : Nat) : Int))).2.2.2 ≤ 1048576 ∧ true = true) ∧ (True ∧ ((True ∧ List.length (List.take y0 l) + List.length ([(nth_Box l (Int.toNat ((y0 : Nat) : Int)))]) ≤ rowMax) ∧ (T3 (∃ y0' : Nat, (y0' ≤ List.length l) ∧ (List.length l - y0') < (List.length l - y0) ∧ ((leV (.c (.hs .no tyBox l)) (.c (.hs .no tyBox l)) ∧ leV (.tp []) (.tp []) ∧ leV (.c (.raw (.slice none 0 0))) (.c (.raw (.slice none 0 0))) ∧ leV (.c (.row 0 0)) (.c (.row 0 0)) ∧ leV (.tp []) (.tp []) ∧ True ∧ True ∧ leV (.c (.hs .no tyBox l)) (.c (.hs .no tyBox l)) ∧ leV (.c (.int .i64 ((List.length l : Nat) : Int))) (.c (.int .i64 ((List.length l : Nat) : Int))) ∧ leV (.c (.int .i64 (IntKind.wrap .i64 (((y0 : Nat) : Int) + 1)))) (.c (.int .i64 ((y0' : Nat) : Int))) ∧ True ∧ True ∧ True ∧ True ∧ True ∧ True ∧ True ∧ True ∧ True ∧ leV (.tp []) (.tp []) ∧ True) ∧ (leB (.row tyBox (List.take y0 l ++ [(nth_Box l (Int.toNat ((y0 : Nat) : Int)))]) 0 0 none) (.row tyBox (List.take y0' l) 0 0 none) ∧ True) ∧ true = true)))))))) else (T2 (((List.take y0 l) = l) ∧ true = true))))))) (by kernel_rfl) ?_
  unfold T2 T3 T5 T6
  obtain ⟨hp1, hp2⟩ := hpre
  simp only [btw_iff, btw_not, flagsOk, Bool.not_true, Bool.not_false, SI2A, eq_self]
  refine ⟨⟨0, Nat.zero_le _, rfl, Eq.mpr (leB_row (t := tyBox)) rfl⟩, fun k hk => ⟨fun hlt => ?_, fun hge => ?_⟩⟩
  · have hl : k < l.length := by omega
    have hg : l[k]? = some (nth_Box l k) := nth_getElem? (t := tyBox) hl
    have hs := smallB_nth ⟨hp1, hp2⟩ k
    have ht : List.take k l ++ [nth_Box l k] = List.take (k + 1) l := by
      rw [List.take_add_one, hg]
      rfl
    rw [ht]
    repeat' (first | apply And.intro | intro _)
    all_goals first
      | trivial
      | omega
      | (unfold rowMax; rw [List.length_take, List.length_singleton]; omega)
      | exact ⟨k + 1, by omega, by omega, wrapN (by unfold maxLen; omega), Eq.mpr (leB_row (t := tyBox)) rfl⟩
  · exact List.take_of_length_le (by omega)
def e_i_copyBoxes : Entry Tryz.prog := ⟨221, [.v (.list tyBox)], fun x => smallB x.1, fun x => .c (.row 0 0), fun x => [.row tyBox x.1 0 0 none], fun x hx => b_i_copyBoxes x.1 hx, Tryz.call221⟩
def L_s_l9Copies (l : List GBox) : Nat → List AV → Mem → LoopA
  | 3, tm, M => ⟨Nat, fun y => (setA tm [(3, .c (.row 0 0)), (4, .c (.int .i64 ((y : Nat) : Int))), (5, .any), (6, .any), (7, .any), (8, .any), (9, .any), (10, .any), (11, .any), (12, .any), (13, .any), (14, .any), (15, .any), (16, .any), (17, .any), (18, .any), (19, .any)], setM M [(0, .row tyBox (List.take y l) 0 0 none)]), fun y => (y ≤ List.length l), fun y => (List.length l - y)⟩
  | _, _, _ => ⟨Unit, fun _ => ([], []), fun _ => False, fun _ => 0⟩
set_option maxRecDepth 100000 in
set_option maxHeartbeats 400000 in
theorem b_s_l9Copies (l : List GBox) (hpre : smallB l) : BCalls Tryz.prog 210 [.c (.hs .no tyBox l)] (.c (.row 0 0)) [.row tyBox l 0 0 none] := by
  refine bcalls_of (T := ⟨[e_s_l9Copy], [], [], [], none, fun _ => [], 0, [], []⟩) (L := (L_s_l9Copies l)) Tryz.func210 ⟨⟨rfl, rfl⟩, rfl⟩ (fun hwf => ?_)
  refine Eq.mpr (β := (T4 ((∃ q : Nat, (q ≤ List.length l) ∧ ((leV (.c (.hs .no tyBox l)) (.c (.hs .no tyBox l)) ∧ leV (.tp []) (.tp []) ∧ leV (.c (.raw (.slice none 0 0))) (.c (.raw (.slice none 0 0))) ∧ leV (.c (.row 0 0)) (.c (.row 0 0)) ∧ leV (.c (.int .i64 0)) (.c (.int .i64 ((q : Nat) : Int))) ∧ True ∧ True ∧ True ∧ True ∧ True ∧ True ∧ True ∧ True ∧ True ∧ True ∧ True ∧ True ∧ True ∧ True ∧ True ∧ leV (.tp []) (.tp []) ∧ True) ∧ (leB (.row tyBox ([] : List GBox) 0 0 none) (.row tyBox (List.take q l) 0 0 none) ∧ True) ∧ true = true)) ∧ ∀ y0 : Nat, (y0 ≤ List.length l) → (T4 (bif (ltI ((y0 : Nat) : Int) ((List.length l : Nat) : Int)) then (T3 (((4 : Nat) = 4 ∧ (0 : Int) ≤ ((y0 : Nat) : Int) ∧ (((y0 : Nat) : Int) : Int) < ((List.length l : Nat) : Int)) ∧ (True ∧ ((List.length (nth_Box l (Int.toNat ((y0 : Nat) : Int))).2.2.2 ≤ 1048576 ∧ true = true) ∧ (True ∧ ((True ∧ List.length (List.take y0 l) + List.length ([(nth_Box l (Int.toNat ((y0 : Nat) : Int)))]) ≤ rowMax) ∧ (T4 (∃ y0' : Nat, (y0' ≤ List.length l) ∧ (List.length l - y0') < (List.length l - y0) ∧ ((leV (.c (.hs .no tyBox l)) (.c (.hs .no tyBox l)) ∧ leV (.tp []) (.tp []) ∧ leV (.c (.raw (.slice none 0 0))) (.c (.raw (.slice none 0 0))) ∧ leV (.c (.row 0 0)) (.c (.row 0 0)) ∧ leV (.c (.int .i64 (IntKind.wrap .i64 (((y0 : Nat) : Int) + 1)))) (.c (.int .i64 ((y0' : Nat) : Int))) ∧ True ∧ True ∧ True ∧ True ∧ True ∧ True ∧ True ∧ True ∧ True ∧ True ∧ True ∧ True ∧ True ∧ True ∧ True ∧ leV (.tp []) (.tp []) ∧ True) ∧ (leB (.row tyBox (List.take y0 l ++ [(nth_Box l (Int.toNat ((y0 : Nat) : Int)))]) 0 0 none) (.row tyBox (List.take y0' l) 0 0 none) ∧ True) ∧ true = true))))))))) else (T2 (((List.take y0 l) = l) ∧ true = true))))))) (by kernel_rfl) ?_
  unfold T2 T3 T4
  obtain ⟨hp1, hp2⟩ := hpre
  simp only [btw_iff, btw_not, flagsOk, Bool.not_true, Bool.not_false, SI2A, eq_self]
  refine ⟨⟨0, Nat.zero_le _, rfl, Eq.mpr (leB_row (t := tyBox)) rfl⟩, fun k hk => ⟨fun hlt => ?_, fun hge => ?_⟩⟩
  · have hl : k < l.length := by omega
    have hg : l[k]? = some (nth_Box l k) := nth_getElem? (t := tyBox) hl
    have hs := smallB_nth ⟨hp1, hp2⟩ k
    have ht : List.take k l ++ [nth_Box l k] = List.take (k + 1) l := by
      rw [List.take_add_one, hg]
      rfl
    rw [ht]
    repeat' (first | apply And.intro | intro _)
    all_goals first
      | trivial
      | omega
      | (unfold rowMax; rw [List.length_take, List.length_singleton]; omega)
      | exact ⟨k + 1, by omega, by omega, wrapN (by unfold maxLen; omega), Eq.mpr (leB_row (t := tyBox)) rfl⟩
  · exact List.take_of_length_le (by omega)
def e_s_l9Copies : Entry Tryz.prog := ⟨210, [.v (.list tyBox)], fun x => smallB x.1, fun x => .c (.row 0 0), fun x => [.row tyBox x.1 0 0 none], fun x hx => b_s_l9Copies x.1 hx, Tryz.call210⟩
def k0dggrv (l : List GBox) (m : GCommit) : Prop := ((4 : Nat) = 4 ∧ (0 : Int) ≤ boxW l m.2.1 ∧ (boxW l m.2.1 : Int) < ((List.length l : Nat) : Int))
def k1dggrv (r0 : List GBox) (l : List GBox) (m : GCommit) : Prop := (True ∧ (((preS r0 ∧ ((r0 = r0) ∧ ((True)) ∧ True)) ∧ true = true) ∧ ∀ r1 : List GBox, r1 = sortB r0 → (T2 ((((([] : List GBox) = []) ∧ True) ∧ (r1 = (perfB l m))) ∧ true = true))))
def k2dggrv (l : List GBox) (m : GCommit) : Prop := ((4 : Nat) = 4 ∧ (0 : Int) ≤ boxW l m.2.1 ∧ (boxW l m.2.1 : Int) < ((List.length (List.set l (Int.toNat (boxW l m.2.1)) ((nth_Box l (Int.toNat (boxW l m.2.1))).1, ((nth_Box l (Int.toNat (boxW l m.2.1))).2.1, ((nth_Box l (Int.toNat (boxW l m.2.1))).2.2.1, ((nth_Box l (Int.toNat (boxW l m.2.1))).2.2.2 ++ [(m.2.2.1, (m.2.2.2.1, m.2.2.2.2.2))]))))) : Nat) : Int))
set_option maxRecDepth 100000 in
set_option maxHeartbeats 400000 in
theorem m_i_perform (l : List GBox) (m : GCommit) (hpre : appl l m = true) : MCalls Tryz.prog 223 (argsM 0 [(.g false (.list tyBox)), (.a (.s tyCommit))] (l, m, ())) (preM 0 [(.g false (.list tyBox)), (.a (.s tyCommit))] (l, m, ())) (postM 0 [(.g false (.list tyBox)), (.a (.s tyCommit))] (l, m, ()) ++ [.row tyBox (perfB l m) 0 0 none]) (inpM 0 [(.g false (.list tyBox)), (.a (.s tyCommit))]) (.c (.row 1 0)) := by
  refine mcalls_of (T := ⟨[e_i_BoxWith, e_i_PlaceOf], [], [], [e_slices_SortFunc_Box, e_slices_Delete_Box, e_slices_Delete_Msg], none, fun _ => [], 1, [], []⟩) (L := L0) Tryz.func223 rfl rfl rfl (by kernel_rfl) (fun hwf hwm => ?_)
  refine Eq.mpr (β := (T5 ((True ∧ true = true ∧ true = true) ∧ (T5 (bif (eqI m.1 1) then (T7 ((True ∧ List.length l + List.length ([(m.2.2.2.2.1, (m.2.1, (1, ([] : List GMsg))))]) ≤ rowMax) ∧ (T2 (((preS (l ++ [(m.2.2.2.2.1, (m.2.1, (1, ([] : List GMsg))))]) ∧ (((l ++ [(m.2.2.2.2.1, (m.2.1, (1, ([] : List GMsg))))]) = (l ++ [(m.2.2.2.2.1, (m.2.1, (1, ([] : List GMsg))))])) ∧ ((True)) ∧ True)) ∧ true = true) ∧ ∀ r0 : List GBox, r0 = sortB (l ++ [(m.2.2.2.2.1, (m.2.1, (1, ([] : List GMsg))))]) → (T2 ((((([] : List GBox) = []) ∧ True) ∧ (r0 = (perfB l m))) ∧ true = true)))))) else (T2 (bif (eqI m.1 2) then (T4 (((preDB l (boxW l m.2.1) (IntKind.wrap .i64 (boxW l m.2.1 + 1)) ∧ ((l = l) ∧ True)) ∧ true = true) ∧ ∀ r0 : List GBox, r0 = ([] : List GBox) → (T2 (((preS (outB l (Int.toNat (boxW l m.2.1))) ∧ (((outB l (Int.toNat (boxW l m.2.1))) = (outB l (Int.toNat (boxW l m.2.1)))) ∧ ((True)) ∧ True)) ∧ true = true) ∧ ∀ r1 : List GBox, r1 = sortB (outB l (Int.toNat (boxW l m.2.1))) → (T2 ((((([] : List GBox) = []) ∧ True) ∧ (r1 = (perfB l m))) ∧ true = true)))))) else (T2 (bif (eqI m.1 3) then (T4 ((k0dggrv l m) ∧ (T2 (∀ r0 : List GBox, r0 = (List.set l (Int.toNat (boxW l m.2.1)) (m.2.2.2.2.1, (nth_Box l (Int.toNat (boxW l m.2.1))).2)) → (k1dggrv r0 l m))))) else (T2 (bif (eqI m.1 4) then ((true = true ∧ true = true) ∧ (T4 ((k0dggrv l m) ∧ (T10 ((True ∧ List.length (nth_Box l (Int.toNat (boxW l m.2.1))).2.2.2 + List.length ([(m.2.2.1, (m.2.2.2.1, m.2.2.2.2.2))]) ≤ rowMax) ∧ ((k0dggrv l m) ∧ (True ∧ (((Int.toNat (boxW l m.2.1)) : Nat) = (Int.toNat (boxW l m.2.1)) ∧ (T2 ((k2dggrv l m) ∧ (T3 ((k2dggrv l m) ∧ (T2 (∀ r0 : List GBox, r0 = (List.set (List.set l (Int.toNat (boxW l m.2.1)) ((nth_Box l (Int.toNat (boxW l m.2.1))).1, ((nth_Box l (Int.toNat (boxW l m.2.1))).2.1, ((nth_Box l (Int.toNat (boxW l m.2.1))).2.2.1, ((nth_Box l (Int.toNat (boxW l m.2.1))).2.2.2 ++ [(m.2.2.1, (m.2.2.2.1, m.2.2.2.2.2))]))))) (Int.toNat (boxW l m.2.1)) ((nth_Box (List.set l (Int.toNat (boxW l m.2.1)) ((nth_Box l (Int.toNat (boxW l m.2.1))).1, ((nth_Box l (Int.toNat (boxW l m.2.1))).2.1, ((nth_Box l (Int.toNat (boxW l m.2.1))).2.2.1, ((nth_Box l (Int.toNat (boxW l m.2.1))).2.2.2 ++ [(m.2.2.1, (m.2.2.2.1, m.2.2.2.2.2))]))))) (Int.toNat (boxW l m.2.1))).1, ((nth_Box (List.set l (Int.toNat (boxW l m.2.1)) ((nth_Box l (Int.toNat (boxW l m.2.1))).1, ((nth_Box l (Int.toNat (boxW l m.2.1))).2.1, ((nth_Box l (Int.toNat (boxW l m.2.1))).2.2.1, ((nth_Box l (Int.toNat (boxW l m.2.1))).2.2.2 ++ [(m.2.2.1, (m.2.2.2.1, m.2.2.2.2.2))]))))) (Int.toNat (boxW l m.2.1))).2.1, ((IntKind.wrap .i64 ((nth_Box (List.set l (Int.toNat (boxW l m.2.1)) ((nth_Box l (Int.toNat (boxW l m.2.1))).1, ((nth_Box l (Int.toNat (boxW l m.2.1))).2.1, ((nth_Box l (Int.toNat (boxW l m.2.1))).2.2.1, ((nth_Box l (Int.toNat (boxW l m.2.1))).2.2.2 ++ [(m.2.2.1, (m.2.2.2.1, m.2.2.2.2.2))]))))) (Int.toNat (boxW l m.2.1))).2.2.1 + 1)), (nth_Box (List.set l (Int.toNat (boxW l m.2.1)) ((nth_Box l (Int.toNat (boxW l m.2.1))).1, ((nth_Box l (Int.toNat (boxW l m.2.1))).2.1, ((nth_Box l (Int.toNat (boxW l m.2.1))).2.2.1, ((nth_Box l (Int.toNat (boxW l m.2.1))).2.2.2 ++ [(m.2.2.1, (m.2.2.2.1, m.2.2.2.2.2))]))))) (Int.toNat (boxW l m.2.1))).2.2.2)))) → (k1dggrv r0 l m))))))))))))))) else (T2 (bif (eqI m.1 5) then ((true = true ∧ true = true) ∧ (T2 ((k0dggrv l m) ∧ (T4 ((k0dggrv l m) ∧ (T5 ((True ∧ true = true ∧ true = true) ∧ (((3 : Nat) = 3 ∧ (0 : Int) ≤ placeO (nth_Box l (Int.toNat (boxW l m.2.1))).2.2.2 m.2.2.1 ∧ (placeO (nth_Box l (Int.toNat (boxW l m.2.1))).2.2.2 m.2.2.1 : Int) < ((List.length (nth_Box l (Int.toNat (boxW l m.2.1))).2.2.2 : Nat) : Int)) ∧ (T2 (∀ r0 : List GBox, r0 = (List.set l (Int.toNat (boxW l m.2.1)) ((nth_Box l (Int.toNat (boxW l m.2.1))).1, ((nth_Box l (Int.toNat (boxW l m.2.1))).2.1, ((nth_Box l (Int.toNat (boxW l m.2.1))).2.2.1, (List.set (nth_Box l (Int.toNat (boxW l m.2.1))).2.2.2 (Int.toNat (placeO (nth_Box l (Int.toNat (boxW l m.2.1))).2.2.2 m.2.2.1)) ((nth_Msg (nth_Box l (Int.toNat (boxW l m.2.1))).2.2.2 (Int.toNat (placeO (nth_Box l (Int.toNat (boxW l m.2.1))).2.2.2 m.2.2.1))).1, (m.2.2.2.1, (nth_Msg (nth_Box l (Int.toNat (boxW l m.2.1))).2.2.2 (Int.toNat (placeO (nth_Box l (Int.toNat (boxW l m.2.1))).2.2.2 m.2.2.1))).2.2))))))) → (k1dggrv r0 l m))))))))))) else (T2 (bif (eqI m.1 6) then ((true = true ∧ true = true) ∧ (T2 ((k0dggrv l m) ∧ (T3 ((True ∧ true = true ∧ true = true) ∧ (T5 ((k0dggrv l m) ∧ (T5 (((preDM (nth_Box l (Int.toNat (boxW l m.2.1))).2.2.2 (placeO (nth_Box l (Int.toNat (boxW l m.2.1))).2.2.2 m.2.2.1) (IntKind.wrap .i64 (placeO (nth_Box l (Int.toNat (boxW l m.2.1))).2.2.2 m.2.2.1 + 1)) ∧ (((nth_Box l (Int.toNat (boxW l m.2.1))).2.2.2 = (nth_Box l (Int.toNat (boxW l m.2.1))).2.2.2) ∧ True)) ∧ true = true) ∧ ((k0dggrv l m) ∧ (True ∧ (((Int.toNat (boxW l m.2.1)) : Nat) = (Int.toNat (boxW l m.2.1)) ∧ (True ∧ (((preS (List.set l (Int.toNat (boxW l m.2.1)) ((nth_Box l (Int.toNat (boxW l m.2.1))).1, ((nth_Box l (Int.toNat (boxW l m.2.1))).2.1, ((nth_Box l (Int.toNat (boxW l m.2.1))).2.2.1, outM (nth_Box l (Int.toNat (boxW l m.2.1))).2.2.2 (Int.toNat (placeO (nth_Box l (Int.toNat (boxW l m.2.1))).2.2.2 m.2.2.1)))))) ∧ (((List.set l (Int.toNat (boxW l m.2.1)) ((nth_Box l (Int.toNat (boxW l m.2.1))).1, ((nth_Box l (Int.toNat (boxW l m.2.1))).2.1, ((nth_Box l (Int.toNat (boxW l m.2.1))).2.2.1, outM (nth_Box l (Int.toNat (boxW l m.2.1))).2.2.2 (Int.toNat (placeO (nth_Box l (Int.toNat (boxW l m.2.1))).2.2.2 m.2.2.1)))))) = (List.set l (Int.toNat (boxW l m.2.1)) ((nth_Box l (Int.toNat (boxW l m.2.1))).1, ((nth_Box l (Int.toNat (boxW l m.2.1))).2.1, ((nth_Box l (Int.toNat (boxW l m.2.1))).2.2.1, outM (nth_Box l (Int.toNat (boxW l m.2.1))).2.2.2 (Int.toNat (placeO (nth_Box l (Int.toNat (boxW l m.2.1))).2.2.2 m.2.2.1))))))) ∧ ((True)) ∧ True)) ∧ true = true) ∧ ∀ r0 : List GBox, r0 = sortB (List.set l (Int.toNat (boxW l m.2.1)) ((nth_Box l (Int.toNat (boxW l m.2.1))).1, ((nth_Box l (Int.toNat (boxW l m.2.1))).2.1, ((nth_Box l (Int.toNat (boxW l m.2.1))).2.2.1, outM (nth_Box l (Int.toNat (boxW l m.2.1))).2.2.2 (Int.toNat (placeO (nth_Box l (Int.toNat (boxW l m.2.1))).2.2.2 m.2.2.1)))))) → (T2 ((((([] : List GBox) = []) ∧ True) ∧ (r0 = (perfB l m))) ∧ true = true)))))))))))))))) else (True ∧ (((preS l ∧ ((l = l) ∧ ((True)) ∧ True)) ∧ true = true) ∧ ∀ r0 : List GBox, r0 = sortB l → (T2 ((((([] : List GBox) = []) ∧ True) ∧ (r0 = (perfB l m))) ∧ true = true))))))))))))))))))) (by kernel_rfl) ?_
  unfold k2dggrv k1dggrv k0dggrv T10 T2 T3 T4 T5 T7
  obtain ⟨hs, hl4, hbx, hcm, hft⟩ := appl_facts hpre
  have hw := boxW_lt l m.2.1
  have hm := boxIx_lt l m.2.2.2.2.1
  have hp := placeO_lt (bxB l m).2.2.2 m.2.2.1
  have hc := commitOk_iff.1 hcm
  have hne : m.1 ≠ 1 → 0 ≤ boxW l m.2.1 := fun h => by
    rcases Int.lt_or_le (boxW l m.2.1) 0 with h1 | h1
    · exfalso
      unfold fitsB at hft
      rw [if_neg h, if_pos h1] at hft
      cases hft
    · exact h1
  have hk : m.1 ≠ 1 → Int.toNat (boxW l m.2.1) < l.length := fun h => by have := hne h; omega
  have hb6 : m.1 ≠ 1 → (bxB l m).2.2.2.length ≤ 6 ∧ (1 ≤ (bxB l m).2.2.1 ∧ (bxB l m).2.2.1 ≤ 999999999) := fun h => by
    have := boxOk_iff.1 (hbx _ (hk h))
    exact ⟨this.2.2.2.2, this.2.2.2.1⟩
  have hpm : m.1 = 5 ∨ m.1 = 6 → 0 ≤ placeO (bxB l m).2.2.2 m.2.2.1 := fun h => by
    have h1 : ¬ boxW l m.2.1 < 0 := by have := hne (by omega); omega
    unfold fitsB at hft
    rw [if_neg (by omega), if_neg h1, if_neg (by omega), if_neg (by omega), if_pos h] at hft
    simpa using hft
  have hwr : IntKind.wrap .i64 (boxW l m.2.1 + 1) = boxW l m.2.1 + 1 := wrapA (by omega) (by omega)
  have hwp : m.1 ≠ 1 → IntKind.wrap .i64 (placeO (bxB l m).2.2.2 m.2.2.1 + 1) = placeO (bxB l m).2.2.2 m.2.2.1 + 1 := fun h => by have := hb6 h; exact wrapA (by omega) (by omega)
  have set_ok : ∀ (v x : Int) (ms : List GMsg), preS (l.set (bxK l m) ((bxB l m).1, v, x, ms)) ∧ sortB (l.set (bxK l m) ((bxB l m).1, v, x, ms)) = l.set (bxK l m) ((bxB l m).1, v, x, ms) := fun v x ms => by
    have h1 : srt (l.set (bxK l m) ((bxB l m).1, v, x, ms)) := srt_set hs rfl
    refine ⟨⟨by rw [List.length_set]; omega, nms_perm h1 (List.Perm.refl _)⟩, sortB_id h1⟩
  simp only [btw_iff, btw_not, flagsOk, Bool.not_true, Bool.not_false, SI2A, eq_self]
  refine ⟨fun h1 => ?_, fun h1 => ⟨fun h2 => ?_, fun h2 => ⟨fun h3 => ?_, fun h3 => ⟨fun h4 => ?_, fun h4 => ⟨fun h5 => ?_, fun h5 => ⟨fun h6 => ?_, fun h6 => ?_⟩⟩⟩⟩⟩⟩
  · have hf := fitsB_iff.1 hft
    have hn := perf_new (b := (m.2.2.2.2.1, m.2.1, 1, [])) hs (boxIx_neg (n := m.2.2.2.2.1) (by omega))
    refine ⟨by unfold rowMax; simp; omega, ⟨by simp; omega, hn.1⟩, fun r hr => ?_⟩
    rw [hr, hn.2]
    unfold perfB
    rw [if_pos h1]
  · refine ⟨⟨hne h1, by omega, hwr⟩, fun r0 _ => ⟨⟨?_, nms_perm (srt_out hs _) (List.Perm.refl _)⟩, fun r1 hr => ?_⟩⟩
    · have := (outB_sub l (Int.toNat (boxW l m.2.1))).length_le
      omega
    · rw [hr, sortB_id (srt_out hs _)]
      unfold perfB
      rw [if_neg h1, if_pos h2]
  · have hf := fitsB_iff.1 hft
    have hn := perf_ren (b := (m.2.2.2.2.1, (bxB l m).2)) hs (hk h1) (boxIx_neg (n := m.2.2.2.2.1) (by omega))
    refine ⟨⟨hne h1, hw.2⟩, fun r0 hr0 => ?_⟩
    subst hr0
    refine ⟨⟨by rw [List.length_set]; omega, hn.1⟩, fun r1 hr => ?_⟩
    rw [hr, hn.2]
    unfold perfB
    rw [if_neg h1, if_neg h2, if_pos h3]
  · have e : ∀ X : GBox, nth_Box (l.set (Int.toNat (boxW l m.2.1)) X) (Int.toNat (boxW l m.2.1)) = X := fun X => nth_set_self (t := tyBox) (hk h1)
    have h6 : List.length (nth_Box l (Int.toNat (boxW l m.2.1))).2.2.2 ≤ 6 ∧ 1 ≤ (nth_Box l (Int.toNat (boxW l m.2.1))).2.2.1 ∧ (nth_Box l (Int.toNat (boxW l m.2.1))).2.2.1 ≤ 999999999 := hb6 h1
    simp only [e, List.set_set, List.length_set]
    rw [wrapA (by omega) (by omega)]
    refine ⟨⟨hne h1, hw.2⟩, by unfold rowMax; simp; omega, ⟨hne h1, hw.2⟩, ⟨hne h1, hw.2⟩, ⟨hne h1, hw.2⟩, fun r0 hr0 => ?_⟩
    subst hr0
    refine ⟨(set_ok _ _ _).1, fun r1 hr => ?_⟩
    rw [hr, (set_ok _ _ _).2]
    unfold perfB
    rw [if_neg h1, if_neg h2, if_neg h3, if_pos h4]
  · refine ⟨⟨hne h1, hw.2⟩, ⟨hne h1, hw.2⟩, ⟨hpm (.inl h5), hp.2⟩, fun r0 hr0 => ?_⟩
    subst hr0
    refine ⟨(set_ok _ _ _).1, fun r1 hr => ?_⟩
    rw [hr, (set_ok _ _ _).2]
    unfold perfB
    rw [if_neg h1, if_neg h2, if_neg h3, if_neg h4, if_pos h5]
  · refine ⟨⟨hne h1, hw.2⟩, ⟨hne h1, hw.2⟩, ⟨hpm (.inr h6), hp.2, hwp h1⟩, ⟨hne h1, hw.2⟩, (set_ok _ _ _).1, fun r1 hr => ?_⟩
    rw [hr, (set_ok _ _ _).2]
    unfold perfB
    rw [if_neg h1, if_neg h2, if_neg h3, if_neg h4, if_neg h5]
  · exfalso
    rcases hc.2 with h | h | h | h | h <;> omega
def e_i_perform : MEntry Tryz.prog := ⟨223, [(.g false (.list tyBox)), (.a (.s tyCommit))], fun x => appl x.1 x.2.1 = true, fun x => (x.1, x.2.1, ()), fun x => .c (.row 1 0), fun x => [.row tyBox (perfB x.1 x.2.1) 0 0 none], fun x hx => m_i_perform x.1 x.2.1 hx, Tryz.call223⟩
end Go.Proofs.YtigebfhekmjhmaaGreat
