/-
  The laws' functions szX.
  No condition but what the arguments' cells hold. Printed by vcgen.py.
-/
import Derived.Test.YtigebfhekmjhmaaGreatLawA
set_option linter.unusedSimpArgs false
set_option linter.unusedVariables false
namespace Go.Proofs.YtigebfhekmjhmaaGreat
open Go.ChangeShapes Go.WideShapes Go.ChangeAt Go.RowKit Go.Joins Go.Deep
open GoRep (rep bulk)

set_option maxRecDepth 100000 in
set_option maxHeartbeats 2000000 in
theorem b_l_szMsg (a : GMsg) (left : Int) (hpre : szP left) : BCalls Tryz.prog 248 [.ag [.int .i64 a.1, .int .i64 a.2.1, .str a.2.2], .c (.int .i64 left)] (.c (.int .i64 (szT left (bulk a)))) [] := by
  refine bcalls_of (T := ⟨[], [], [], [], none, fun _ => [], 0, [], []⟩) (L := L0) Tryz.func248 ⟨⟨rfl, rfl⟩, rfl⟩ (fun hwf => ?_)
  refine Eq.mpr (β := (True ∧ (True ∧ (True ∧ (True ∧ (True ∧ (True ∧ (True ∧ (True ∧ (True ∧ (True ∧ (bif (ltI (IntKind.wrap .i64 (left - ((ByteArray.size a.2.2 : Nat) : Int))) 0) then (True ∧ ((true = true ∧ leC (.int .i64 (-1)) (.int .i64 (szT left (bulk a)))) ∧ true = true)) else (True ∧ (True ∧ ((true = true ∧ leC (.int .i64 (IntKind.wrap .i64 (left - ((ByteArray.size a.2.2 : Nat) : Int)))) (.int .i64 (szT left (bulk a)))) ∧ true = true))))))))))))))) (by kernel_rfl) ?_
  obtain ⟨hp0, hp1⟩ := hpre
  have H0 := szT_cases left (bulk a)
  have hb : bulk a = ByteArray.size a.2.2 := by
    have e : bulk a = 0 + (0 + (ByteArray.size a.2.2)) := rfl
    omega
  have m2 : ByteArray.size a.2.2 ≤ maxLen := hwf.1.2.2.1
  have w2 := wrapD (left - ((ByteArray.size a.2.2 : Nat) : Int))
  try unfold maxLen at *
  simp only [true_and, and_true, cond_iff, eqI_true, eqI_false, neI_true, neI_false, ltI_true, ltI_false, leI_true, leI_false, gtI_true, gtI_false, geI_true, geI_false, eqS_true, eqS_false, eqO_true, eqO_false, not_true, not_false, Bool.not_eq_true', Bool.not_eq_false', eq_self, leV_any, leV_int, leV_bool, leV_str, leV_refl, leB_refl, leC_int, leC_bool, leC_str, leC_hs, leB_row, Int.toNat_natCast]
  repeat' (first | apply And.intro | intro _)
  all_goals (first | trivial | omega)
def e_l_szMsg : Entry Tryz.prog := ⟨248, [.s tyMsg, .v tyInt], fun x => szP x.2.1, fun x => .c (.int .i64 (szT x.2.1 (bulk x.1))), fun _ => [], fun x hx => b_l_szMsg x.1 x.2.1 hx, Tryz.call248⟩
def L_l_szMsgS (a : List GMsg) (left : Int) : Nat → List AV → Mem → LoopA
  | 5, tm, M => ⟨Nat, fun y => (setA tm [(1, .c (.int .i64 (left - ((List.length a : Nat) : Int) - ((bulkL (List.take y a) : Nat) : Int)))), (4, .any), (5, .c (.int .i64 ((y : Nat) : Int))), (12, .any), (13, .any), (14, .any), (15, .any), (16, .any), (17, .any), (18, .any), (19, .any), (20, .any), (21, .any), (22, .any), (23, .any), (24, .any), (25, .any)], M), fun y => (y ≤ List.length a ∧ ((List.length a : Nat) : Int) + ((bulkL (List.take y a) : Nat) : Int) ≤ left), fun y => (List.length a - y)⟩
  | _, _, _ => ⟨Unit, fun _ => ([], []), fun _ => False, fun _ => 0⟩
set_option maxRecDepth 100000 in
set_option maxHeartbeats 400000 in
theorem b_l_szMsgS (a : List GMsg) (left : Int) (hpre : szP left) : BCalls Tryz.prog 192 [.c (.hs .no tyMsg a), .c (.int .i64 left)] (.c (.int .i64 (szT left (bulk a)))) [] := by
  refine bcalls_of (T := ⟨[e_l_szMsg], [], [], [], none, fun _ => [], 0, [], []⟩) (L := (L_l_szMsgS a left)) Tryz.func192 ⟨⟨rfl, rfl⟩, rfl⟩ (fun hwf => ?_)
  refine Eq.mpr (β := (True ∧ (True ∧ (True ∧ (True ∧ (True ∧ (True ∧ (True ∧ (True ∧ (bif (ltI (IntKind.wrap .i64 (left - ((List.length a : Nat) : Int))) 0) then (True ∧ ((true = true ∧ leC (.int .i64 (-1)) (.int .i64 (szT left (bulk a)))) ∧ true = true)) else (True ∧ ((∃ q : Nat, (q ≤ List.length a ∧ ((List.length a : Nat) : Int) + ((bulkL (List.take q a) : Nat) : Int) ≤ left) ∧ ((leV (.c (.hs .no tyMsg a)) (.c (.hs .no tyMsg a)) ∧ leV (.c (.int .i64 (IntKind.wrap .i64 (left - ((List.length a : Nat) : Int))))) (.c (.int .i64 (left - ((List.length a : Nat) : Int) - ((bulkL (List.take q a) : Nat) : Int)))) ∧ leV (.tp []) (.tp []) ∧ leV (.tp []) (.tp []) ∧ True ∧ leV (.c (.int .i64 0)) (.c (.int .i64 ((q : Nat) : Int))) ∧ leV (.c (.int .i64 left)) (.c (.int .i64 left)) ∧ leV (.c (.hs .no tyMsg a)) (.c (.hs .no tyMsg a)) ∧ leV (.c (.int .i64 ((List.length a : Nat) : Int))) (.c (.int .i64 ((List.length a : Nat) : Int))) ∧ leV (.c (.int .i64 (IntKind.wrap .i64 (left - ((List.length a : Nat) : Int))))) (.c (.int .i64 (IntKind.wrap .i64 (left - ((List.length a : Nat) : Int))))) ∧ leV (.c (.int .i64 (IntKind.wrap .i64 (left - ((List.length a : Nat) : Int))))) (.c (.int .i64 (IntKind.wrap .i64 (left - ((List.length a : Nat) : Int))))) ∧ leV (.c (.bool false)) (.c (.bool false)) ∧ True ∧ True ∧ True ∧ True ∧ True ∧ True ∧ True ∧ True ∧ True ∧ True ∧ True ∧ True ∧ True ∧ True ∧ leV (.tp []) (.tp []) ∧ True) ∧ (True) ∧ true = true)) ∧ ∀ y0 : Nat, (y0 ≤ List.length a ∧ ((List.length a : Nat) : Int) + ((bulkL (List.take y0 a) : Nat) : Int) ≤ left) → (True ∧ (True ∧ (True ∧ (True ∧ (bif (ltI ((y0 : Nat) : Int) ((List.length a : Nat) : Int)) then (True ∧ (True ∧ (((3 : Nat) = 3 ∧ (0 : Int) ≤ ((y0 : Nat) : Int) ∧ (((y0 : Nat) : Int) : Int) < ((List.length a : Nat) : Int)) ∧ (True ∧ (True ∧ ((szP (left - ((List.length a : Nat) : Int) - ((bulkL (List.take y0 a) : Nat) : Int)) ∧ true = true) ∧ (True ∧ (True ∧ (True ∧ (bif (ltI (szT (left - ((List.length a : Nat) : Int) - ((bulkL (List.take y0 a) : Nat) : Int)) (bulk (nth_Msg a (Int.toNat ((y0 : Nat) : Int))))) 0) then (True ∧ ((true = true ∧ leC (.int .i64 (-1)) (.int .i64 (szT left (bulk a)))) ∧ true = true)) else (True ∧ (True ∧ (True ∧ (∃ y0' : Nat, (y0' ≤ List.length a ∧ ((List.length a : Nat) : Int) + ((bulkL (List.take y0' a) : Nat) : Int) ≤ left) ∧ (List.length a - y0') < (List.length a - y0) ∧ ((leV (.c (.hs .no tyMsg a)) (.c (.hs .no tyMsg a)) ∧ leV (.c (.int .i64 (szT (left - ((List.length a : Nat) : Int) - ((bulkL (List.take y0 a) : Nat) : Int)) (bulk (nth_Msg a (Int.toNat ((y0 : Nat) : Int))))))) (.c (.int .i64 (left - ((List.length a : Nat) : Int) - ((bulkL (List.take y0' a) : Nat) : Int)))) ∧ leV (.tp []) (.tp []) ∧ leV (.tp []) (.tp []) ∧ True ∧ leV (.c (.int .i64 (IntKind.wrap .i64 (((y0 : Nat) : Int) + 1)))) (.c (.int .i64 ((y0' : Nat) : Int))) ∧ leV (.c (.int .i64 left)) (.c (.int .i64 left)) ∧ leV (.c (.hs .no tyMsg a)) (.c (.hs .no tyMsg a)) ∧ leV (.c (.int .i64 ((List.length a : Nat) : Int))) (.c (.int .i64 ((List.length a : Nat) : Int))) ∧ leV (.c (.int .i64 (IntKind.wrap .i64 (left - ((List.length a : Nat) : Int))))) (.c (.int .i64 (IntKind.wrap .i64 (left - ((List.length a : Nat) : Int))))) ∧ leV (.c (.int .i64 (IntKind.wrap .i64 (left - ((List.length a : Nat) : Int))))) (.c (.int .i64 (IntKind.wrap .i64 (left - ((List.length a : Nat) : Int))))) ∧ leV (.c (.bool false)) (.c (.bool false)) ∧ True ∧ True ∧ True ∧ True ∧ True ∧ True ∧ True ∧ True ∧ True ∧ True ∧ True ∧ True ∧ True ∧ True ∧ leV (.tp []) (.tp []) ∧ True) ∧ (True) ∧ true = true))))))))))))))) else (True ∧ (True ∧ ((true = true ∧ leC (.int .i64 (left - ((List.length a : Nat) : Int) - ((bulkL (List.take y0 a) : Nat) : Int))) (.int .i64 (szT left (bulk a)))) ∧ true = true)))))))))))))))))))) (by kernel_rfl) ?_
  obtain ⟨hp0, hp1⟩ := hpre
  have hm : a.length ≤ maxLen := hwf.1.1
  have H0 := szT_cases left (bulk a)
  have hb : bulk a = a.length + bulkL a := rfl
  have w0 := wrapD (left - ((List.length a : Nat) : Int))
  unfold maxLen at hm
  have z0 : bulkL (List.take 0 a) = 0 := rfl
  have z1 : bulkL (List.take a.length a) = bulkL a := by rw [List.take_length]
  simp only [true_and, and_true, cond_iff, eqI_true, eqI_false, neI_true, neI_false, ltI_true, ltI_false, leI_true, leI_false, gtI_true, gtI_false, geI_true, geI_false, eqS_true, eqS_false, eqO_true, eqO_false, not_true, not_false, Bool.not_eq_true', Bool.not_eq_false', eq_self, leV_any, leV_int, leV_bool, leV_str, leV_refl, leB_refl, leC_int, leC_bool, leC_str, leC_hs, leB_row, Int.toNat_natCast]
  refine ⟨fun h => by omega, fun h => ⟨⟨0, ⟨Nat.zero_le _, by omega⟩, ?_⟩, fun k hk => ⟨fun hlt => ?_, fun hge => ?_⟩⟩⟩
  · first | (refine ⟨?_, ?_⟩ <;> omega) | omega
  · have hlt : k < a.length := by omega
    have hk := nth_getElem? (t := tyMsg) hlt
    have s1 : bulkL (List.take (k + 1) a) = bulkL (List.take k a) + bulk (nth_Msg a k) := bulkL_snoc hk
    have s2 : bulkL (List.take (k + 1) a) ≤ bulkL a := bulkL_le a (k + 1)
    have k1 := wrapN (k := k) (by unfold maxLen; omega)
    have w1 := szT_cases (left - ((List.length a : Nat) : Int) - ((bulkL (List.take k a) : Nat) : Int)) (bulk (nth_Msg a k))
    (try unfold maxLen at *)
    repeat' (first | apply And.intro | intro _)
    all_goals (first | trivial | omega | (refine ⟨k + 1, ⟨by omega, by omega⟩, by omega, ?_⟩; first | (refine ⟨?_, ?_⟩ <;> omega) | omega))
  · obtain rfl : k = a.length := by omega
    omega
def e_l_szMsgS : Entry Tryz.prog := ⟨192, [.v (.list tyMsg), .v tyInt], fun x => szP x.2.1, fun x => .c (.int .i64 (szT x.2.1 (bulk x.1))), fun _ => [], fun x hx => b_l_szMsgS x.1 x.2.1 hx, Tryz.call192⟩
set_option maxRecDepth 100000 in
set_option maxHeartbeats 2000000 in
theorem b_l_szBox (a : GBox) (left : Int) (hpre : szP left) : BCalls Tryz.prog 122 [.ag [.str a.1, .int .i64 a.2.1, .int .i64 a.2.2.1, .hs .no tyMsg a.2.2.2], .c (.int .i64 left)] (.c (.int .i64 (szT left (bulk a)))) [] := by
  refine bcalls_of (T := ⟨[e_l_szMsgS], [], [], [], none, fun _ => [], 0, [], []⟩) (L := L0) Tryz.func122 ⟨⟨rfl, rfl⟩, rfl⟩ (fun hwf => ?_)
  refine Eq.mpr (β := (True ∧ (True ∧ (True ∧ (True ∧ (True ∧ (True ∧ (True ∧ (True ∧ (True ∧ (True ∧ (bif (ltI (IntKind.wrap .i64 (left - ((ByteArray.size a.1 : Nat) : Int))) 0) then (True ∧ ((true = true ∧ leC (.int .i64 (-1)) (.int .i64 (szT left (bulk a)))) ∧ true = true)) else (True ∧ (True ∧ (True ∧ ((szP (IntKind.wrap .i64 (left - ((ByteArray.size a.1 : Nat) : Int))) ∧ true = true) ∧ (True ∧ (True ∧ (True ∧ (bif (ltI (szT (IntKind.wrap .i64 (left - ((ByteArray.size a.1 : Nat) : Int))) (bulk a.2.2.2)) 0) then (True ∧ ((true = true ∧ leC (.int .i64 (-1)) (.int .i64 (szT left (bulk a)))) ∧ true = true)) else (True ∧ (True ∧ ((true = true ∧ leC (.int .i64 (szT (IntKind.wrap .i64 (left - ((ByteArray.size a.1 : Nat) : Int))) (bulk a.2.2.2))) (.int .i64 (szT left (bulk a)))) ∧ true = true))))))))))))))))))))))) (by kernel_rfl) ?_
  obtain ⟨hp0, hp1⟩ := hpre
  have H0 := szT_cases left (bulk a)
  have hb : bulk a = ByteArray.size a.1 + bulk a.2.2.2 := by
    have e : bulk a = ByteArray.size a.1 + (0 + (0 + (bulk a.2.2.2))) := rfl
    omega
  have m0 : ByteArray.size a.1 ≤ maxLen := hwf.1.1
  have w0 := wrapD (left - ((ByteArray.size a.1 : Nat) : Int))
  have w3 := szT_cases (IntKind.wrap .i64 (left - ((ByteArray.size a.1 : Nat) : Int))) (bulk a.2.2.2)
  try unfold maxLen at *
  simp only [true_and, and_true, cond_iff, eqI_true, eqI_false, neI_true, neI_false, ltI_true, ltI_false, leI_true, leI_false, gtI_true, gtI_false, geI_true, geI_false, eqS_true, eqS_false, eqO_true, eqO_false, not_true, not_false, Bool.not_eq_true', Bool.not_eq_false', eq_self, leV_any, leV_int, leV_bool, leV_str, leV_refl, leB_refl, leC_int, leC_bool, leC_str, leC_hs, leB_row, Int.toNat_natCast]
  repeat' (first | apply And.intro | intro _)
  all_goals (first | trivial | omega)
def e_l_szBox : Entry Tryz.prog := ⟨122, [.s tyBox, .v tyInt], fun x => szP x.2.1, fun x => .c (.int .i64 (szT x.2.1 (bulk x.1))), fun _ => [], fun x hx => b_l_szBox x.1 x.2.1 hx, Tryz.call122⟩
def L_l_szBoxS (a : List GBox) (left : Int) : Nat → List AV → Mem → LoopA
  | 5, tm, M => ⟨Nat, fun y => (setA tm [(1, .c (.int .i64 (left - ((List.length a : Nat) : Int) - ((bulkL (List.take y a) : Nat) : Int)))), (4, .any), (5, .c (.int .i64 ((y : Nat) : Int))), (12, .any), (13, .any), (14, .any), (15, .any), (16, .any), (17, .any), (18, .any), (19, .any), (20, .any), (21, .any), (22, .any), (23, .any), (24, .any), (25, .any)], M), fun y => (y ≤ List.length a ∧ ((List.length a : Nat) : Int) + ((bulkL (List.take y a) : Nat) : Int) ≤ left), fun y => (List.length a - y)⟩
  | _, _, _ => ⟨Unit, fun _ => ([], []), fun _ => False, fun _ => 0⟩
set_option maxRecDepth 100000 in
set_option maxHeartbeats 400000 in
theorem b_l_szBoxS (a : List GBox) (left : Int) (hpre : szP left) : BCalls Tryz.prog 49 [.c (.hs .no tyBox a), .c (.int .i64 left)] (.c (.int .i64 (szT left (bulk a)))) [] := by
  refine bcalls_of (T := ⟨[e_l_szBox], [], [], [], none, fun _ => [], 0, [], []⟩) (L := (L_l_szBoxS a left)) Tryz.func49 ⟨⟨rfl, rfl⟩, rfl⟩ (fun hwf => ?_)
  refine Eq.mpr (β := (True ∧ (True ∧ (True ∧ (True ∧ (True ∧ (True ∧ (True ∧ (True ∧ (bif (ltI (IntKind.wrap .i64 (left - ((List.length a : Nat) : Int))) 0) then (True ∧ ((true = true ∧ leC (.int .i64 (-1)) (.int .i64 (szT left (bulk a)))) ∧ true = true)) else (True ∧ ((∃ q : Nat, (q ≤ List.length a ∧ ((List.length a : Nat) : Int) + ((bulkL (List.take q a) : Nat) : Int) ≤ left) ∧ ((leV (.c (.hs .no tyBox a)) (.c (.hs .no tyBox a)) ∧ leV (.c (.int .i64 (IntKind.wrap .i64 (left - ((List.length a : Nat) : Int))))) (.c (.int .i64 (left - ((List.length a : Nat) : Int) - ((bulkL (List.take q a) : Nat) : Int)))) ∧ leV (.tp []) (.tp []) ∧ leV (.tp []) (.tp []) ∧ True ∧ leV (.c (.int .i64 0)) (.c (.int .i64 ((q : Nat) : Int))) ∧ leV (.c (.int .i64 left)) (.c (.int .i64 left)) ∧ leV (.c (.hs .no tyBox a)) (.c (.hs .no tyBox a)) ∧ leV (.c (.int .i64 ((List.length a : Nat) : Int))) (.c (.int .i64 ((List.length a : Nat) : Int))) ∧ leV (.c (.int .i64 (IntKind.wrap .i64 (left - ((List.length a : Nat) : Int))))) (.c (.int .i64 (IntKind.wrap .i64 (left - ((List.length a : Nat) : Int))))) ∧ leV (.c (.int .i64 (IntKind.wrap .i64 (left - ((List.length a : Nat) : Int))))) (.c (.int .i64 (IntKind.wrap .i64 (left - ((List.length a : Nat) : Int))))) ∧ leV (.c (.bool false)) (.c (.bool false)) ∧ True ∧ True ∧ True ∧ True ∧ True ∧ True ∧ True ∧ True ∧ True ∧ True ∧ True ∧ True ∧ True ∧ True ∧ leV (.tp []) (.tp []) ∧ True) ∧ (True) ∧ true = true)) ∧ ∀ y0 : Nat, (y0 ≤ List.length a ∧ ((List.length a : Nat) : Int) + ((bulkL (List.take y0 a) : Nat) : Int) ≤ left) → (True ∧ (True ∧ (True ∧ (True ∧ (bif (ltI ((y0 : Nat) : Int) ((List.length a : Nat) : Int)) then (True ∧ (True ∧ (((4 : Nat) = 4 ∧ (0 : Int) ≤ ((y0 : Nat) : Int) ∧ (((y0 : Nat) : Int) : Int) < ((List.length a : Nat) : Int)) ∧ (True ∧ (True ∧ ((szP (left - ((List.length a : Nat) : Int) - ((bulkL (List.take y0 a) : Nat) : Int)) ∧ true = true) ∧ (True ∧ (True ∧ (True ∧ (bif (ltI (szT (left - ((List.length a : Nat) : Int) - ((bulkL (List.take y0 a) : Nat) : Int)) (bulk (nth_Box a (Int.toNat ((y0 : Nat) : Int))))) 0) then (True ∧ ((true = true ∧ leC (.int .i64 (-1)) (.int .i64 (szT left (bulk a)))) ∧ true = true)) else (True ∧ (True ∧ (True ∧ (∃ y0' : Nat, (y0' ≤ List.length a ∧ ((List.length a : Nat) : Int) + ((bulkL (List.take y0' a) : Nat) : Int) ≤ left) ∧ (List.length a - y0') < (List.length a - y0) ∧ ((leV (.c (.hs .no tyBox a)) (.c (.hs .no tyBox a)) ∧ leV (.c (.int .i64 (szT (left - ((List.length a : Nat) : Int) - ((bulkL (List.take y0 a) : Nat) : Int)) (bulk (nth_Box a (Int.toNat ((y0 : Nat) : Int))))))) (.c (.int .i64 (left - ((List.length a : Nat) : Int) - ((bulkL (List.take y0' a) : Nat) : Int)))) ∧ leV (.tp []) (.tp []) ∧ leV (.tp []) (.tp []) ∧ True ∧ leV (.c (.int .i64 (IntKind.wrap .i64 (((y0 : Nat) : Int) + 1)))) (.c (.int .i64 ((y0' : Nat) : Int))) ∧ leV (.c (.int .i64 left)) (.c (.int .i64 left)) ∧ leV (.c (.hs .no tyBox a)) (.c (.hs .no tyBox a)) ∧ leV (.c (.int .i64 ((List.length a : Nat) : Int))) (.c (.int .i64 ((List.length a : Nat) : Int))) ∧ leV (.c (.int .i64 (IntKind.wrap .i64 (left - ((List.length a : Nat) : Int))))) (.c (.int .i64 (IntKind.wrap .i64 (left - ((List.length a : Nat) : Int))))) ∧ leV (.c (.int .i64 (IntKind.wrap .i64 (left - ((List.length a : Nat) : Int))))) (.c (.int .i64 (IntKind.wrap .i64 (left - ((List.length a : Nat) : Int))))) ∧ leV (.c (.bool false)) (.c (.bool false)) ∧ True ∧ True ∧ True ∧ True ∧ True ∧ True ∧ True ∧ True ∧ True ∧ True ∧ True ∧ True ∧ True ∧ True ∧ leV (.tp []) (.tp []) ∧ True) ∧ (True) ∧ true = true))))))))))))))) else (True ∧ (True ∧ ((true = true ∧ leC (.int .i64 (left - ((List.length a : Nat) : Int) - ((bulkL (List.take y0 a) : Nat) : Int))) (.int .i64 (szT left (bulk a)))) ∧ true = true)))))))))))))))))))) (by kernel_rfl) ?_
  obtain ⟨hp0, hp1⟩ := hpre
  have hm : a.length ≤ maxLen := hwf.1.1
  have H0 := szT_cases left (bulk a)
  have hb : bulk a = a.length + bulkL a := rfl
  have w0 := wrapD (left - ((List.length a : Nat) : Int))
  unfold maxLen at hm
  have z0 : bulkL (List.take 0 a) = 0 := rfl
  have z1 : bulkL (List.take a.length a) = bulkL a := by rw [List.take_length]
  simp only [true_and, and_true, cond_iff, eqI_true, eqI_false, neI_true, neI_false, ltI_true, ltI_false, leI_true, leI_false, gtI_true, gtI_false, geI_true, geI_false, eqS_true, eqS_false, eqO_true, eqO_false, not_true, not_false, Bool.not_eq_true', Bool.not_eq_false', eq_self, leV_any, leV_int, leV_bool, leV_str, leV_refl, leB_refl, leC_int, leC_bool, leC_str, leC_hs, leB_row, Int.toNat_natCast]
  refine ⟨fun h => by omega, fun h => ⟨⟨0, ⟨Nat.zero_le _, by omega⟩, ?_⟩, fun k hk => ⟨fun hlt => ?_, fun hge => ?_⟩⟩⟩
  · first | (refine ⟨?_, ?_⟩ <;> omega) | omega
  · have hlt : k < a.length := by omega
    have hk := nth_getElem? (t := tyBox) hlt
    have s1 : bulkL (List.take (k + 1) a) = bulkL (List.take k a) + bulk (nth_Box a k) := bulkL_snoc hk
    have s2 : bulkL (List.take (k + 1) a) ≤ bulkL a := bulkL_le a (k + 1)
    have k1 := wrapN (k := k) (by unfold maxLen; omega)
    have w1 := szT_cases (left - ((List.length a : Nat) : Int) - ((bulkL (List.take k a) : Nat) : Int)) (bulk (nth_Box a k))
    (try unfold maxLen at *)
    repeat' (first | apply And.intro | intro _)
    all_goals (first | trivial | omega | (refine ⟨k + 1, ⟨by omega, by omega⟩, by omega, ?_⟩; first | (refine ⟨?_, ?_⟩ <;> omega) | omega))
  · obtain rfl : k = a.length := by omega
    omega
def e_l_szBoxS : Entry Tryz.prog := ⟨49, [.v (.list tyBox), .v tyInt], fun x => szP x.2.1, fun x => .c (.int .i64 (szT x.2.1 (bulk x.1))), fun _ => [], fun x hx => b_l_szBoxS x.1 x.2.1 hx, Tryz.call49⟩
set_option maxRecDepth 100000 in
set_option maxHeartbeats 2000000 in
theorem b_l_szCommit (a : GCommit) (left : Int) (hpre : szP left) : BCalls Tryz.prog 123 [.ag [.int .i64 a.1, .int .i64 a.2.1, .int .i64 a.2.2.1, .int .i64 a.2.2.2.1, .str a.2.2.2.2.1, .str a.2.2.2.2.2], .c (.int .i64 left)] (.c (.int .i64 (szT left (bulk a)))) [] := by
  refine bcalls_of (T := ⟨[], [], [], [], none, fun _ => [], 0, [], []⟩) (L := L0) Tryz.func123 ⟨⟨rfl, rfl⟩, rfl⟩ (fun hwf => ?_)
  refine Eq.mpr (β := (True ∧ (True ∧ (True ∧ (True ∧ (True ∧ (True ∧ (True ∧ (True ∧ (True ∧ (True ∧ (bif (ltI (IntKind.wrap .i64 (left - ((ByteArray.size a.2.2.2.2.1 : Nat) : Int))) 0) then (True ∧ ((true = true ∧ leC (.int .i64 (-1)) (.int .i64 (szT left (bulk a)))) ∧ true = true)) else (True ∧ (True ∧ (True ∧ (True ∧ (True ∧ (True ∧ (True ∧ (True ∧ (bif (ltI (IntKind.wrap .i64 ((IntKind.wrap .i64 (left - ((ByteArray.size a.2.2.2.2.1 : Nat) : Int))) - ((ByteArray.size a.2.2.2.2.2 : Nat) : Int))) 0) then (True ∧ ((true = true ∧ leC (.int .i64 (-1)) (.int .i64 (szT left (bulk a)))) ∧ true = true)) else (True ∧ (True ∧ ((true = true ∧ leC (.int .i64 (IntKind.wrap .i64 ((IntKind.wrap .i64 (left - ((ByteArray.size a.2.2.2.2.1 : Nat) : Int))) - ((ByteArray.size a.2.2.2.2.2 : Nat) : Int)))) (.int .i64 (szT left (bulk a)))) ∧ true = true)))))))))))))))))))))))) (by kernel_rfl) ?_
  obtain ⟨hp0, hp1⟩ := hpre
  have H0 := szT_cases left (bulk a)
  have hb : bulk a = ByteArray.size a.2.2.2.2.1 + ByteArray.size a.2.2.2.2.2 := by
    have e : bulk a = 0 + (0 + (0 + (0 + (ByteArray.size a.2.2.2.2.1 + (ByteArray.size a.2.2.2.2.2))))) := rfl
    omega
  have m4 : ByteArray.size a.2.2.2.2.1 ≤ maxLen := hwf.1.2.2.2.2.1
  have m5 : ByteArray.size a.2.2.2.2.2 ≤ maxLen := hwf.1.2.2.2.2.2.1
  have w4 := wrapD (left - ((ByteArray.size a.2.2.2.2.1 : Nat) : Int))
  have w5 := wrapD ((IntKind.wrap .i64 (left - ((ByteArray.size a.2.2.2.2.1 : Nat) : Int))) - ((ByteArray.size a.2.2.2.2.2 : Nat) : Int))
  try unfold maxLen at *
  simp only [true_and, and_true, cond_iff, eqI_true, eqI_false, neI_true, neI_false, ltI_true, ltI_false, leI_true, leI_false, gtI_true, gtI_false, geI_true, geI_false, eqS_true, eqS_false, eqO_true, eqO_false, not_true, not_false, Bool.not_eq_true', Bool.not_eq_false', eq_self, leV_any, leV_int, leV_bool, leV_str, leV_refl, leB_refl, leC_int, leC_bool, leC_str, leC_hs, leB_row, Int.toNat_natCast]
  repeat' (first | apply And.intro | intro _)
  all_goals (first | trivial | omega)
def e_l_szCommit : Entry Tryz.prog := ⟨123, [.s tyCommit, .v tyInt], fun x => szP x.2.1, fun x => .c (.int .i64 (szT x.2.1 (bulk x.1))), fun _ => [], fun x hx => b_l_szCommit x.1 x.2.1 hx, Tryz.call123⟩
def L_l_szCommitS (a : List GCommit) (left : Int) : Nat → List AV → Mem → LoopA
  | 5, tm, M => ⟨Nat, fun y => (setA tm [(1, .c (.int .i64 (left - ((List.length a : Nat) : Int) - ((bulkL (List.take y a) : Nat) : Int)))), (4, .any), (5, .c (.int .i64 ((y : Nat) : Int))), (12, .any), (13, .any), (14, .any), (15, .any), (16, .any), (17, .any), (18, .any), (19, .any), (20, .any), (21, .any), (22, .any), (23, .any), (24, .any), (25, .any)], M), fun y => (y ≤ List.length a ∧ ((List.length a : Nat) : Int) + ((bulkL (List.take y a) : Nat) : Int) ≤ left), fun y => (List.length a - y)⟩
  | _, _, _ => ⟨Unit, fun _ => ([], []), fun _ => False, fun _ => 0⟩
set_option maxRecDepth 100000 in
set_option maxHeartbeats 400000 in
theorem b_l_szCommitS (a : List GCommit) (left : Int) (hpre : szP left) : BCalls Tryz.prog 50 [.c (.hs .no tyCommit a), .c (.int .i64 left)] (.c (.int .i64 (szT left (bulk a)))) [] := by
  refine bcalls_of (T := ⟨[e_l_szCommit], [], [], [], none, fun _ => [], 0, [], []⟩) (L := (L_l_szCommitS a left)) Tryz.func50 ⟨⟨rfl, rfl⟩, rfl⟩ (fun hwf => ?_)
  refine Eq.mpr (β := (True ∧ (True ∧ (True ∧ (True ∧ (True ∧ (True ∧ (True ∧ (True ∧ (bif (ltI (IntKind.wrap .i64 (left - ((List.length a : Nat) : Int))) 0) then (True ∧ ((true = true ∧ leC (.int .i64 (-1)) (.int .i64 (szT left (bulk a)))) ∧ true = true)) else (True ∧ ((∃ q : Nat, (q ≤ List.length a ∧ ((List.length a : Nat) : Int) + ((bulkL (List.take q a) : Nat) : Int) ≤ left) ∧ ((leV (.c (.hs .no tyCommit a)) (.c (.hs .no tyCommit a)) ∧ leV (.c (.int .i64 (IntKind.wrap .i64 (left - ((List.length a : Nat) : Int))))) (.c (.int .i64 (left - ((List.length a : Nat) : Int) - ((bulkL (List.take q a) : Nat) : Int)))) ∧ leV (.tp []) (.tp []) ∧ leV (.tp []) (.tp []) ∧ True ∧ leV (.c (.int .i64 0)) (.c (.int .i64 ((q : Nat) : Int))) ∧ leV (.c (.int .i64 left)) (.c (.int .i64 left)) ∧ leV (.c (.hs .no tyCommit a)) (.c (.hs .no tyCommit a)) ∧ leV (.c (.int .i64 ((List.length a : Nat) : Int))) (.c (.int .i64 ((List.length a : Nat) : Int))) ∧ leV (.c (.int .i64 (IntKind.wrap .i64 (left - ((List.length a : Nat) : Int))))) (.c (.int .i64 (IntKind.wrap .i64 (left - ((List.length a : Nat) : Int))))) ∧ leV (.c (.int .i64 (IntKind.wrap .i64 (left - ((List.length a : Nat) : Int))))) (.c (.int .i64 (IntKind.wrap .i64 (left - ((List.length a : Nat) : Int))))) ∧ leV (.c (.bool false)) (.c (.bool false)) ∧ True ∧ True ∧ True ∧ True ∧ True ∧ True ∧ True ∧ True ∧ True ∧ True ∧ True ∧ True ∧ True ∧ True ∧ leV (.tp []) (.tp []) ∧ True) ∧ (True) ∧ true = true)) ∧ ∀ y0 : Nat, (y0 ≤ List.length a ∧ ((List.length a : Nat) : Int) + ((bulkL (List.take y0 a) : Nat) : Int) ≤ left) → (True ∧ (True ∧ (True ∧ (True ∧ (bif (ltI ((y0 : Nat) : Int) ((List.length a : Nat) : Int)) then (True ∧ (True ∧ (((6 : Nat) = 6 ∧ (0 : Int) ≤ ((y0 : Nat) : Int) ∧ (((y0 : Nat) : Int) : Int) < ((List.length a : Nat) : Int)) ∧ (True ∧ (True ∧ ((szP (left - ((List.length a : Nat) : Int) - ((bulkL (List.take y0 a) : Nat) : Int)) ∧ true = true) ∧ (True ∧ (True ∧ (True ∧ (bif (ltI (szT (left - ((List.length a : Nat) : Int) - ((bulkL (List.take y0 a) : Nat) : Int)) (bulk (nth_Commit a (Int.toNat ((y0 : Nat) : Int))))) 0) then (True ∧ ((true = true ∧ leC (.int .i64 (-1)) (.int .i64 (szT left (bulk a)))) ∧ true = true)) else (True ∧ (True ∧ (True ∧ (∃ y0' : Nat, (y0' ≤ List.length a ∧ ((List.length a : Nat) : Int) + ((bulkL (List.take y0' a) : Nat) : Int) ≤ left) ∧ (List.length a - y0') < (List.length a - y0) ∧ ((leV (.c (.hs .no tyCommit a)) (.c (.hs .no tyCommit a)) ∧ leV (.c (.int .i64 (szT (left - ((List.length a : Nat) : Int) - ((bulkL (List.take y0 a) : Nat) : Int)) (bulk (nth_Commit a (Int.toNat ((y0 : Nat) : Int))))))) (.c (.int .i64 (left - ((List.length a : Nat) : Int) - ((bulkL (List.take y0' a) : Nat) : Int)))) ∧ leV (.tp []) (.tp []) ∧ leV (.tp []) (.tp []) ∧ True ∧ leV (.c (.int .i64 (IntKind.wrap .i64 (((y0 : Nat) : Int) + 1)))) (.c (.int .i64 ((y0' : Nat) : Int))) ∧ leV (.c (.int .i64 left)) (.c (.int .i64 left)) ∧ leV (.c (.hs .no tyCommit a)) (.c (.hs .no tyCommit a)) ∧ leV (.c (.int .i64 ((List.length a : Nat) : Int))) (.c (.int .i64 ((List.length a : Nat) : Int))) ∧ leV (.c (.int .i64 (IntKind.wrap .i64 (left - ((List.length a : Nat) : Int))))) (.c (.int .i64 (IntKind.wrap .i64 (left - ((List.length a : Nat) : Int))))) ∧ leV (.c (.int .i64 (IntKind.wrap .i64 (left - ((List.length a : Nat) : Int))))) (.c (.int .i64 (IntKind.wrap .i64 (left - ((List.length a : Nat) : Int))))) ∧ leV (.c (.bool false)) (.c (.bool false)) ∧ True ∧ True ∧ True ∧ True ∧ True ∧ True ∧ True ∧ True ∧ True ∧ True ∧ True ∧ True ∧ True ∧ True ∧ leV (.tp []) (.tp []) ∧ True) ∧ (True) ∧ true = true))))))))))))))) else (True ∧ (True ∧ ((true = true ∧ leC (.int .i64 (left - ((List.length a : Nat) : Int) - ((bulkL (List.take y0 a) : Nat) : Int))) (.int .i64 (szT left (bulk a)))) ∧ true = true)))))))))))))))))))) (by kernel_rfl) ?_
  obtain ⟨hp0, hp1⟩ := hpre
  have hm : a.length ≤ maxLen := hwf.1.1
  have H0 := szT_cases left (bulk a)
  have hb : bulk a = a.length + bulkL a := rfl
  have w0 := wrapD (left - ((List.length a : Nat) : Int))
  unfold maxLen at hm
  have z0 : bulkL (List.take 0 a) = 0 := rfl
  have z1 : bulkL (List.take a.length a) = bulkL a := by rw [List.take_length]
  simp only [true_and, and_true, cond_iff, eqI_true, eqI_false, neI_true, neI_false, ltI_true, ltI_false, leI_true, leI_false, gtI_true, gtI_false, geI_true, geI_false, eqS_true, eqS_false, eqO_true, eqO_false, not_true, not_false, Bool.not_eq_true', Bool.not_eq_false', eq_self, leV_any, leV_int, leV_bool, leV_str, leV_refl, leB_refl, leC_int, leC_bool, leC_str, leC_hs, leB_row, Int.toNat_natCast]
  refine ⟨fun h => by omega, fun h => ⟨⟨0, ⟨Nat.zero_le _, by omega⟩, ?_⟩, fun k hk => ⟨fun hlt => ?_, fun hge => ?_⟩⟩⟩
  · first | (refine ⟨?_, ?_⟩ <;> omega) | omega
  · have hlt : k < a.length := by omega
    have hk := nth_getElem? (t := tyCommit) hlt
    have s1 : bulkL (List.take (k + 1) a) = bulkL (List.take k a) + bulk (nth_Commit a k) := bulkL_snoc hk
    have s2 : bulkL (List.take (k + 1) a) ≤ bulkL a := bulkL_le a (k + 1)
    have k1 := wrapN (k := k) (by unfold maxLen; omega)
    have w1 := szT_cases (left - ((List.length a : Nat) : Int) - ((bulkL (List.take k a) : Nat) : Int)) (bulk (nth_Commit a k))
    (try unfold maxLen at *)
    repeat' (first | apply And.intro | intro _)
    all_goals (first | trivial | omega | (refine ⟨k + 1, ⟨by omega, by omega⟩, by omega, ?_⟩; first | (refine ⟨?_, ?_⟩ <;> omega) | omega))
  · obtain rfl : k = a.length := by omega
    omega
def e_l_szCommitS : Entry Tryz.prog := ⟨50, [.v (.list tyCommit), .v tyInt], fun x => szP x.2.1, fun x => .c (.int .i64 (szT x.2.1 (bulk x.1))), fun _ => [], fun x hx => b_l_szCommitS x.1 x.2.1 hx, Tryz.call50⟩
set_option maxRecDepth 100000 in
set_option maxHeartbeats 2000000 in
theorem b_l_szStore (a : GStore) (left : Int) (hpre : szP left) : BCalls Tryz.prog 12 [.ag [.hs .no tyBox a.1, .hs .no tyCommit a.2.1, .int .i64 a.2.2], .c (.int .i64 left)] (.c (.int .i64 (szT left (bulk a)))) [] := by
  refine bcalls_of (T := ⟨[e_l_szBoxS, e_l_szCommitS], [], [], [], none, fun _ => [], 0, [], []⟩) (L := L0) Tryz.func12 ⟨⟨rfl, rfl⟩, rfl⟩ (fun hwf => ?_)
  refine Eq.mpr (β := (True ∧ (True ∧ (True ∧ (True ∧ (True ∧ ((szP left ∧ true = true) ∧ (True ∧ (True ∧ (True ∧ (bif (ltI (szT left (bulk a.1)) 0) then (True ∧ ((true = true ∧ leC (.int .i64 (-1)) (.int .i64 (szT left (bulk a)))) ∧ true = true)) else (True ∧ (True ∧ (True ∧ ((szP (szT left (bulk a.1)) ∧ true = true) ∧ (True ∧ (True ∧ (True ∧ (bif (ltI (szT (szT left (bulk a.1)) (bulk a.2.1)) 0) then (True ∧ ((true = true ∧ leC (.int .i64 (-1)) (.int .i64 (szT left (bulk a)))) ∧ true = true)) else (True ∧ (True ∧ ((true = true ∧ leC (.int .i64 (szT (szT left (bulk a.1)) (bulk a.2.1))) (.int .i64 (szT left (bulk a)))) ∧ true = true)))))))))))))))))))))) (by kernel_rfl) ?_
  obtain ⟨hp0, hp1⟩ := hpre
  have H0 := szT_cases left (bulk a)
  have hb : bulk a = bulk a.1 + bulk a.2.1 := by
    have e : bulk a = bulk a.1 + (bulk a.2.1 + (0)) := rfl
    omega
  have w0 := szT_cases left (bulk a.1)
  have w1 := szT_cases (szT left (bulk a.1)) (bulk a.2.1)
  try unfold maxLen at *
  simp only [true_and, and_true, cond_iff, eqI_true, eqI_false, neI_true, neI_false, ltI_true, ltI_false, leI_true, leI_false, gtI_true, gtI_false, geI_true, geI_false, eqS_true, eqS_false, eqO_true, eqO_false, not_true, not_false, Bool.not_eq_true', Bool.not_eq_false', eq_self, leV_any, leV_int, leV_bool, leV_str, leV_refl, leB_refl, leC_int, leC_bool, leC_str, leC_hs, leB_row, Int.toNat_natCast]
  repeat' (first | apply And.intro | intro _)
  all_goals (first | trivial | omega)
def e_l_szStore : Entry Tryz.prog := ⟨12, [.s tyStore, .v tyInt], fun x => szP x.2.1, fun x => .c (.int .i64 (szT x.2.1 (bulk x.1))), fun _ => [], fun x hx => b_l_szStore x.1 x.2.1 hx, Tryz.call12⟩
end Go.Proofs.YtigebfhekmjhmaaGreat
