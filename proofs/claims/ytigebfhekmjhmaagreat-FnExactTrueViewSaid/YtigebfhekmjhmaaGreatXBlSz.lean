/-
  The laws' functions szX.
  No condition but what the arguments' cells hold. Printed by vcgen.py.
-/
import Derived.Test.YtigebfhekmjhmaaGreatXLawA
set_option linter.unusedSimpArgs false
set_option linter.unusedVariables false
namespace Go.Proofs.YtigebfhekmjhmaaGreat
open Go.ChangeShapes Go.WideShapes Go.ChangeAt Go.RowKit Go.Joins Go.Deep
open GoRep (rep bulk)

def L_l_szStringS (a : List ByteArray) (left : Int) : Nat → List AV → Mem → LoopA
  | 5, tm, M => ⟨Nat, fun y => (setA tm [(1, .c (.int .i64 (left - ((List.length a : Nat) : Int) - ((bulkL (List.take y a) : Nat) : Int)))), (4, .any), (5, .c (.int .i64 ((y : Nat) : Int))), (12, .any), (13, .any), (14, .any), (15, .any), (16, .any), (17, .any), (18, .any), (19, .any), (20, .any), (21, .any), (22, .any), (23, .any), (24, .any), (25, .any), (26, .any)], M), fun y => (y ≤ List.length a ∧ ((List.length a : Nat) : Int) + ((bulkL (List.take y a) : Nat) : Int) ≤ left), fun y => (List.length a - y)⟩
  | _, _, _ => ⟨Unit, fun _ => ([], []), fun _ => False, fun _ => 0⟩
set_option maxRecDepth 100000 in
set_option maxHeartbeats 400000 in
theorem b_l_szStringS (a : List ByteArray) (left : Int) (hpre : szP left) : BCalls Tryz.prog 251 [.c (.hs .no tyStr a), .c (.int .i64 left)] (.c (.int .i64 (szT left (bulk a)))) [] := by
  refine bcalls_of (T := ⟨[], [], [], [], none, fun _ => [], 0, [], []⟩) (L := (L_l_szStringS a left)) Tryz.func251 ⟨⟨rfl, rfl⟩, rfl⟩ (fun hwf => ?_)
  refine Eq.mpr (β := (T8 (bif (ltI (IntKind.wrap .i64 (left - ((List.length a : Nat) : Int))) 0) then (True ∧ ((true = true ∧ leC (.int .i64 (-1)) (.int .i64 (szT left (bulk a)))) ∧ true = true)) else (True ∧ ((∃ q : Nat, (q ≤ List.length a ∧ ((List.length a : Nat) : Int) + ((bulkL (List.take q a) : Nat) : Int) ≤ left) ∧ ((leV (.c (.hs .no tyStr a)) (.c (.hs .no tyStr a)) ∧ leV (.c (.int .i64 (IntKind.wrap .i64 (left - ((List.length a : Nat) : Int))))) (.c (.int .i64 (left - ((List.length a : Nat) : Int) - ((bulkL (List.take q a) : Nat) : Int)))) ∧ leV (.tp []) (.tp []) ∧ leV (.tp []) (.tp []) ∧ True ∧ leV (.c (.int .i64 0)) (.c (.int .i64 ((q : Nat) : Int))) ∧ leV (.c (.int .i64 left)) (.c (.int .i64 left)) ∧ leV (.c (.hs .no tyStr a)) (.c (.hs .no tyStr a)) ∧ leV (.c (.int .i64 ((List.length a : Nat) : Int))) (.c (.int .i64 ((List.length a : Nat) : Int))) ∧ leV (.c (.int .i64 (IntKind.wrap .i64 (left - ((List.length a : Nat) : Int))))) (.c (.int .i64 (IntKind.wrap .i64 (left - ((List.length a : Nat) : Int))))) ∧ leV (.c (.int .i64 (IntKind.wrap .i64 (left - ((List.length a : Nat) : Int))))) (.c (.int .i64 (IntKind.wrap .i64 (left - ((List.length a : Nat) : Int))))) ∧ leV (.c (.bool false)) (.c (.bool false)) ∧ True ∧ True ∧ True ∧ True ∧ True ∧ True ∧ True ∧ True ∧ True ∧ True ∧ True ∧ True ∧ True ∧ True ∧ True ∧ leV (.tp []) (.tp []) ∧ True) ∧ (True) ∧ true = true)) ∧ ∀ y0 : Nat, (y0 ≤ List.length a ∧ ((List.length a : Nat) : Int) + ((bulkL (List.take y0 a) : Nat) : Int) ≤ left) → (T4 (bif (ltI ((y0 : Nat) : Int) ((List.length a : Nat) : Int)) then (T3 (((1 : Nat) = 1 ∧ (0 : Int) ≤ ((y0 : Nat) : Int) ∧ (((y0 : Nat) : Int) : Int) < ((List.length a : Nat) : Int)) ∧ (T6 (bif (ltI (IntKind.wrap .i64 ((left - ((List.length a : Nat) : Int) - ((bulkL (List.take y0 a) : Nat) : Int)) - ((ByteArray.size (nth_String a (Int.toNat ((y0 : Nat) : Int))) : Nat) : Int))) 0) then (True ∧ ((true = true ∧ leC (.int .i64 (-1)) (.int .i64 (szT left (bulk a)))) ∧ true = true)) else (T3 (∃ y0' : Nat, (y0' ≤ List.length a ∧ ((List.length a : Nat) : Int) + ((bulkL (List.take y0' a) : Nat) : Int) ≤ left) ∧ (List.length a - y0') < (List.length a - y0) ∧ ((leV (.c (.hs .no tyStr a)) (.c (.hs .no tyStr a)) ∧ leV (.c (.int .i64 (IntKind.wrap .i64 ((left - ((List.length a : Nat) : Int) - ((bulkL (List.take y0 a) : Nat) : Int)) - ((ByteArray.size (nth_String a (Int.toNat ((y0 : Nat) : Int))) : Nat) : Int))))) (.c (.int .i64 (left - ((List.length a : Nat) : Int) - ((bulkL (List.take y0' a) : Nat) : Int)))) ∧ leV (.tp []) (.tp []) ∧ leV (.tp []) (.tp []) ∧ True ∧ leV (.c (.int .i64 (IntKind.wrap .i64 (((y0 : Nat) : Int) + 1)))) (.c (.int .i64 ((y0' : Nat) : Int))) ∧ leV (.c (.int .i64 left)) (.c (.int .i64 left)) ∧ leV (.c (.hs .no tyStr a)) (.c (.hs .no tyStr a)) ∧ leV (.c (.int .i64 ((List.length a : Nat) : Int))) (.c (.int .i64 ((List.length a : Nat) : Int))) ∧ leV (.c (.int .i64 (IntKind.wrap .i64 (left - ((List.length a : Nat) : Int))))) (.c (.int .i64 (IntKind.wrap .i64 (left - ((List.length a : Nat) : Int))))) ∧ leV (.c (.int .i64 (IntKind.wrap .i64 (left - ((List.length a : Nat) : Int))))) (.c (.int .i64 (IntKind.wrap .i64 (left - ((List.length a : Nat) : Int))))) ∧ leV (.c (.bool false)) (.c (.bool false)) ∧ True ∧ True ∧ True ∧ True ∧ True ∧ True ∧ True ∧ True ∧ True ∧ True ∧ True ∧ True ∧ True ∧ True ∧ True ∧ leV (.tp []) (.tp []) ∧ True) ∧ (True) ∧ true = true))))))) else (T2 ((true = true ∧ leC (.int .i64 (left - ((List.length a : Nat) : Int) - ((bulkL (List.take y0 a) : Nat) : Int))) (.int .i64 (szT left (bulk a)))) ∧ true = true))))))))) (by kernel_rfl) ?_
  unfold T2 T3 T4 T6 T8
  obtain ⟨hp0, hp1⟩ := hpre
  have hm : a.length ≤ maxLen := hwf.1.1
  have H0 := szT_cases left (bulk a)
  have hb : bulk a = a.length + bulkL a := rfl
  have w0 := wrapD (left - ((List.length a : Nat) : Int))
  unfold maxLen at hm
  have z0 : bulkL (List.take 0 a) = 0 := rfl
  have z1 : bulkL (List.take a.length a) = bulkL a := by rw [List.take_length]
  simp only [SIA, eq_self]
  refine ⟨fun h => by omega, fun h => ⟨⟨0, ⟨Nat.zero_le _, by omega⟩, ?_⟩, fun k hk => ⟨fun hlt => ?_, fun hge => ?_⟩⟩⟩
  · first | (refine ⟨?_, ?_⟩ <;> omega) | omega
  · have hlt : k < a.length := by omega
    have hk := nth_getElem? (t := tyStr) hlt
    have s1 : bulkL (List.take (k + 1) a) = bulkL (List.take k a) + bulk (nth_String a k) := bulkL_snoc hk
    have s2 : bulkL (List.take (k + 1) a) ≤ bulkL a := bulkL_le a (k + 1)
    have k1 := wrapN (k := k) (by unfold maxLen; omega)
    have hs : (nth_String a k).size ≤ maxLen := allL_nth (t := tyStr) hwf.1.2 hlt
    have w1 := wrapD ((left - ((List.length a : Nat) : Int) - ((bulkL (List.take k a) : Nat) : Int)) - ((ByteArray.size (nth_String a k) : Nat) : Int))
    have hbk : bulk (nth_String a k) = (nth_String a k).size := rfl
    (try unfold maxLen at *)
    repeat' (first | apply And.intro | intro _)
    all_goals (first | trivial | omega | (refine ⟨k + 1, ⟨by omega, by omega⟩, by omega, ?_⟩; first | (refine ⟨?_, ?_⟩ <;> omega) | omega))
  · obtain rfl : k = a.length := by omega
    omega
def e_l_szStringS : Entry Tryz.prog := ⟨251, [.v (.list tyStr), .v tyInt], fun x => szP x.2.1, fun x => .c (.int .i64 (szT x.2.1 (bulk x.1))), fun _ => [], fun x hx => b_l_szStringS x.1 x.2.1 hx, Tryz.call251⟩
set_option maxRecDepth 100000 in
set_option maxHeartbeats 2000000 in
theorem b_l_szScope (a : GScope) (left : Int) (hpre : szP left) : BCalls Tryz.prog 195 [.ag [.int .i64 a.1, .hs .no tyStr a.2.1, .int .i64 a.2.2], .c (.int .i64 left)] (.c (.int .i64 (szT left (bulk a)))) [] := by
  refine bcalls_of (T := ⟨[e_l_szStringS], [], [], [], none, fun _ => [], 0, [], []⟩) (L := L0) Tryz.func195 ⟨⟨rfl, rfl⟩, rfl⟩ (fun hwf => ?_)
  refine Eq.mpr (β := (True ∧ (True ∧ (True ∧ (True ∧ (True ∧ ((szP left ∧ true = true) ∧ (True ∧ (True ∧ (True ∧ (bif (ltI (szT left (bulk a.2.1)) 0) then (True ∧ ((true = true ∧ leC (.int .i64 (-1)) (.int .i64 (szT left (bulk a)))) ∧ true = true)) else (True ∧ (True ∧ ((true = true ∧ leC (.int .i64 (szT left (bulk a.2.1))) (.int .i64 (szT left (bulk a)))) ∧ true = true)))))))))))))) (by kernel_rfl) ?_
  obtain ⟨hp0, hp1⟩ := hpre
  have H0 := szT_cases left (bulk a)
  have hb : bulk a = bulk a.2.1 := by
    have e : bulk a = 0 + (bulk a.2.1 + (0)) := rfl
    omega
  have w1 := szT_cases left (bulk a.2.1)
  try unfold maxLen at *
  simp only [SIA, eq_self]
  repeat' (first | apply And.intro | intro _)
  all_goals (first | trivial | omega)
def e_l_szScope : Entry Tryz.prog := ⟨195, [.s tyScope, .v tyInt], fun x => szP x.2.1, fun x => .c (.int .i64 (szT x.2.1 (bulk x.1))), fun _ => [], fun x hx => b_l_szScope x.1 x.2.1 hx, Tryz.call195⟩
def L_l_szScopeS (a : List GScope) (left : Int) : Nat → List AV → Mem → LoopA
  | 5, tm, M => ⟨Nat, fun y => (setA tm [(1, .c (.int .i64 (left - ((List.length a : Nat) : Int) - ((bulkL (List.take y a) : Nat) : Int)))), (4, .any), (5, .c (.int .i64 ((y : Nat) : Int))), (12, .any), (13, .any), (14, .any), (15, .any), (16, .any), (17, .any), (18, .any), (19, .any), (20, .any), (21, .any), (22, .any), (23, .any), (24, .any), (25, .any)], M), fun y => (y ≤ List.length a ∧ ((List.length a : Nat) : Int) + ((bulkL (List.take y a) : Nat) : Int) ≤ left), fun y => (List.length a - y)⟩
  | _, _, _ => ⟨Unit, fun _ => ([], []), fun _ => False, fun _ => 0⟩
set_option maxRecDepth 100000 in
set_option maxHeartbeats 400000 in
theorem b_l_szScopeS (a : List GScope) (left : Int) (hpre : szP left) : BCalls Tryz.prog 131 [.c (.hs .no tyScope a), .c (.int .i64 left)] (.c (.int .i64 (szT left (bulk a)))) [] := by
  refine bcalls_of (T := ⟨[e_l_szScope], [], [], [], none, fun _ => [], 0, [], []⟩) (L := (L_l_szScopeS a left)) Tryz.func131 ⟨⟨rfl, rfl⟩, rfl⟩ (fun hwf => ?_)
  refine Eq.mpr (β := (T8 (bif (ltI (IntKind.wrap .i64 (left - ((List.length a : Nat) : Int))) 0) then (True ∧ ((true = true ∧ leC (.int .i64 (-1)) (.int .i64 (szT left (bulk a)))) ∧ true = true)) else (True ∧ ((∃ q : Nat, (q ≤ List.length a ∧ ((List.length a : Nat) : Int) + ((bulkL (List.take q a) : Nat) : Int) ≤ left) ∧ ((leV (.c (.hs .no tyScope a)) (.c (.hs .no tyScope a)) ∧ leV (.c (.int .i64 (IntKind.wrap .i64 (left - ((List.length a : Nat) : Int))))) (.c (.int .i64 (left - ((List.length a : Nat) : Int) - ((bulkL (List.take q a) : Nat) : Int)))) ∧ leV (.tp []) (.tp []) ∧ leV (.tp []) (.tp []) ∧ True ∧ leV (.c (.int .i64 0)) (.c (.int .i64 ((q : Nat) : Int))) ∧ leV (.c (.int .i64 left)) (.c (.int .i64 left)) ∧ leV (.c (.hs .no tyScope a)) (.c (.hs .no tyScope a)) ∧ leV (.c (.int .i64 ((List.length a : Nat) : Int))) (.c (.int .i64 ((List.length a : Nat) : Int))) ∧ leV (.c (.int .i64 (IntKind.wrap .i64 (left - ((List.length a : Nat) : Int))))) (.c (.int .i64 (IntKind.wrap .i64 (left - ((List.length a : Nat) : Int))))) ∧ leV (.c (.int .i64 (IntKind.wrap .i64 (left - ((List.length a : Nat) : Int))))) (.c (.int .i64 (IntKind.wrap .i64 (left - ((List.length a : Nat) : Int))))) ∧ leV (.c (.bool false)) (.c (.bool false)) ∧ True ∧ True ∧ True ∧ True ∧ True ∧ True ∧ True ∧ True ∧ True ∧ True ∧ True ∧ True ∧ True ∧ True ∧ leV (.tp []) (.tp []) ∧ True) ∧ (True) ∧ true = true)) ∧ ∀ y0 : Nat, (y0 ≤ List.length a ∧ ((List.length a : Nat) : Int) + ((bulkL (List.take y0 a) : Nat) : Int) ≤ left) → (T4 (bif (ltI ((y0 : Nat) : Int) ((List.length a : Nat) : Int)) then (T2 (((3 : Nat) = 3 ∧ (0 : Int) ≤ ((y0 : Nat) : Int) ∧ (((y0 : Nat) : Int) : Int) < ((List.length a : Nat) : Int)) ∧ (T2 ((szP (left - ((List.length a : Nat) : Int) - ((bulkL (List.take y0 a) : Nat) : Int)) ∧ true = true) ∧ (T3 (bif (ltI (szT (left - ((List.length a : Nat) : Int) - ((bulkL (List.take y0 a) : Nat) : Int)) (bulk (nth_Scope a (Int.toNat ((y0 : Nat) : Int))))) 0) then (True ∧ ((true = true ∧ leC (.int .i64 (-1)) (.int .i64 (szT left (bulk a)))) ∧ true = true)) else (T3 (∃ y0' : Nat, (y0' ≤ List.length a ∧ ((List.length a : Nat) : Int) + ((bulkL (List.take y0' a) : Nat) : Int) ≤ left) ∧ (List.length a - y0') < (List.length a - y0) ∧ ((leV (.c (.hs .no tyScope a)) (.c (.hs .no tyScope a)) ∧ leV (.c (.int .i64 (szT (left - ((List.length a : Nat) : Int) - ((bulkL (List.take y0 a) : Nat) : Int)) (bulk (nth_Scope a (Int.toNat ((y0 : Nat) : Int))))))) (.c (.int .i64 (left - ((List.length a : Nat) : Int) - ((bulkL (List.take y0' a) : Nat) : Int)))) ∧ leV (.tp []) (.tp []) ∧ leV (.tp []) (.tp []) ∧ True ∧ leV (.c (.int .i64 (IntKind.wrap .i64 (((y0 : Nat) : Int) + 1)))) (.c (.int .i64 ((y0' : Nat) : Int))) ∧ leV (.c (.int .i64 left)) (.c (.int .i64 left)) ∧ leV (.c (.hs .no tyScope a)) (.c (.hs .no tyScope a)) ∧ leV (.c (.int .i64 ((List.length a : Nat) : Int))) (.c (.int .i64 ((List.length a : Nat) : Int))) ∧ leV (.c (.int .i64 (IntKind.wrap .i64 (left - ((List.length a : Nat) : Int))))) (.c (.int .i64 (IntKind.wrap .i64 (left - ((List.length a : Nat) : Int))))) ∧ leV (.c (.int .i64 (IntKind.wrap .i64 (left - ((List.length a : Nat) : Int))))) (.c (.int .i64 (IntKind.wrap .i64 (left - ((List.length a : Nat) : Int))))) ∧ leV (.c (.bool false)) (.c (.bool false)) ∧ True ∧ True ∧ True ∧ True ∧ True ∧ True ∧ True ∧ True ∧ True ∧ True ∧ True ∧ True ∧ True ∧ True ∧ leV (.tp []) (.tp []) ∧ True) ∧ (True) ∧ true = true))))))))) else (T2 ((true = true ∧ leC (.int .i64 (left - ((List.length a : Nat) : Int) - ((bulkL (List.take y0 a) : Nat) : Int))) (.int .i64 (szT left (bulk a)))) ∧ true = true))))))))) (by kernel_rfl) ?_
  unfold T2 T3 T4 T8
  obtain ⟨hp0, hp1⟩ := hpre
  have hm : a.length ≤ maxLen := hwf.1.1
  have H0 := szT_cases left (bulk a)
  have hb : bulk a = a.length + bulkL a := rfl
  have w0 := wrapD (left - ((List.length a : Nat) : Int))
  unfold maxLen at hm
  have z0 : bulkL (List.take 0 a) = 0 := rfl
  have z1 : bulkL (List.take a.length a) = bulkL a := by rw [List.take_length]
  simp only [SIA, eq_self]
  refine ⟨fun h => by omega, fun h => ⟨⟨0, ⟨Nat.zero_le _, by omega⟩, ?_⟩, fun k hk => ⟨fun hlt => ?_, fun hge => ?_⟩⟩⟩
  · first | (refine ⟨?_, ?_⟩ <;> omega) | omega
  · have hlt : k < a.length := by omega
    have hk := nth_getElem? (t := tyScope) hlt
    have s1 : bulkL (List.take (k + 1) a) = bulkL (List.take k a) + bulk (nth_Scope a k) := bulkL_snoc hk
    have s2 : bulkL (List.take (k + 1) a) ≤ bulkL a := bulkL_le a (k + 1)
    have k1 := wrapN (k := k) (by unfold maxLen; omega)
    have w1 := szT_cases (left - ((List.length a : Nat) : Int) - ((bulkL (List.take k a) : Nat) : Int)) (bulk (nth_Scope a k))
    (try unfold maxLen at *)
    repeat' (first | apply And.intro | intro _)
    all_goals (first | trivial | omega | (refine ⟨k + 1, ⟨by omega, by omega⟩, by omega, ?_⟩; first | (refine ⟨?_, ?_⟩ <;> omega) | omega))
  · obtain rfl : k = a.length := by omega
    omega
def e_l_szScopeS : Entry Tryz.prog := ⟨131, [.v (.list tyScope), .v tyInt], fun x => szP x.2.1, fun x => .c (.int .i64 (szT x.2.1 (bulk x.1))), fun _ => [], fun x hx => b_l_szScopeS x.1 x.2.1 hx, Tryz.call131⟩
set_option maxRecDepth 100000 in
set_option maxHeartbeats 2000000 in
theorem b_l_szFilter (a : GFilter) (left : Int) (hpre : szP left) : BCalls Tryz.prog 58 [.ag [.bool a.1, .hs .no tyScope a.2], .c (.int .i64 left)] (.c (.int .i64 (szT left (bulk a)))) [] := by
  refine bcalls_of (T := ⟨[e_l_szScopeS], [], [], [], none, fun _ => [], 0, [], []⟩) (L := L0) Tryz.func58 ⟨⟨rfl, rfl⟩, rfl⟩ (fun hwf => ?_)
  refine Eq.mpr (β := (True ∧ (True ∧ (True ∧ (True ∧ (True ∧ ((szP left ∧ true = true) ∧ (True ∧ (True ∧ (True ∧ (bif (ltI (szT left (bulk a.2)) 0) then (True ∧ ((true = true ∧ leC (.int .i64 (-1)) (.int .i64 (szT left (bulk a)))) ∧ true = true)) else (True ∧ (True ∧ ((true = true ∧ leC (.int .i64 (szT left (bulk a.2))) (.int .i64 (szT left (bulk a)))) ∧ true = true)))))))))))))) (by kernel_rfl) ?_
  obtain ⟨hp0, hp1⟩ := hpre
  have H0 := szT_cases left (bulk a)
  have hb : bulk a = bulk a.2 := by
    have e : bulk a = 0 + (bulk a.2) := rfl
    omega
  have w1 := szT_cases left (bulk a.2)
  try unfold maxLen at *
  simp only [SIA, eq_self]
  repeat' (first | apply And.intro | intro _)
  all_goals (first | trivial | omega)
def e_l_szFilter : Entry Tryz.prog := ⟨58, [.s tyFilter, .v tyInt], fun x => szP x.2.1, fun x => .c (.int .i64 (szT x.2.1 (bulk x.1))), fun _ => [], fun x hx => b_l_szFilter x.1 x.2.1 hx, Tryz.call58⟩
set_option maxRecDepth 100000 in
set_option maxHeartbeats 2000000 in
theorem b_l_szMsg (a : GMsg) (left : Int) (hpre : szP left) : BCalls Tryz.prog 248 [.ag [.int .i64 a.1, .int .i64 a.2.1, .str a.2.2], .c (.int .i64 left)] (.c (.int .i64 (szT left (bulk a)))) [] := by
  refine bcalls_of (T := ⟨[], [], [], [], none, fun _ => [], 0, [], []⟩) (L := L0) Tryz.func248 ⟨⟨rfl, rfl⟩, rfl⟩ (fun hwf => ?_)
  refine Eq.mpr (β := (True ∧ (True ∧ (True ∧ (True ∧ (True ∧ (True ∧ (True ∧ (True ∧ (True ∧ (True ∧ (bif (ltI (IntKind.wrap .i64 (left - ((ByteArray.size a.2.2 : Nat) : Int))) 0) then (True ∧ ((true = true ∧ leC (.int .i64 (-1)) (.int .i64 (szT left (bulk a)))) ∧ true = true)) else (True ∧ (True ∧ ((true = true ∧ leC (.int .i64 (IntKind.wrap .i64 (left - ((ByteArray.size a.2.2 : Nat) : Int)))) (.int .i64 (szT left (bulk a)))) ∧ true = true))))))))))))))) (by kernel_rfl) ?_
  obtain ⟨hp0, hp1⟩ := hpre
  have H0 := szT_cases left (bulk a)
  have hb : bulk a = ByteArray.size a.2.2 := by
    have e : bulk a = 0 + (0 + (ByteArray.size a.2.2)) := rfl
    omega
  have m2 : ByteArray.size a.2.2 ≤ maxLen := hwf.1.2.2.1
  have w2 := wrapD (left - ((ByteArray.size a.2.2 : Nat) : Int))
  try unfold maxLen at *
  simp only [SIA, eq_self]
  repeat' (first | apply And.intro | intro _)
  all_goals (first | trivial | omega)
def e_l_szMsg : Entry Tryz.prog := ⟨248, [.s tyMsg, .v tyInt], fun x => szP x.2.1, fun x => .c (.int .i64 (szT x.2.1 (bulk x.1))), fun _ => [], fun x hx => b_l_szMsg x.1 x.2.1 hx, Tryz.call248⟩
def L_l_szMsgS (a : List GMsg) (left : Int) : Nat → List AV → Mem → LoopA
  | 5, tm, M => ⟨Nat, fun y => (setA tm [(1, .c (.int .i64 (left - ((List.length a : Nat) : Int) - ((bulkL (List.take y a) : Nat) : Int)))), (4, .any), (5, .c (.int .i64 ((y : Nat) : Int))), (12, .any), (13, .any), (14, .any), (15, .any), (16, .any), (17, .any), (18, .any), (19, .any), (20, .any), (21, .any), (22, .any), (23, .any), (24, .any), (25, .any)], M), fun y => (y ≤ List.length a ∧ ((List.length a : Nat) : Int) + ((bulkL (List.take y a) : Nat) : Int) ≤ left), fun y => (List.length a - y)⟩
  | _, _, _ => ⟨Unit, fun _ => ([], []), fun _ => False, fun _ => 0⟩
set_option maxRecDepth 100000 in
set_option maxHeartbeats 400000 in
theorem b_l_szMsgS (a : List GMsg) (left : Int) (hpre : szP left) : BCalls Tryz.prog 192 [.c (.hs .no tyMsg a), .c (.int .i64 left)] (.c (.int .i64 (szT left (bulk a)))) [] := by
  refine bcalls_of (T := ⟨[e_l_szMsg], [], [], [], none, fun _ => [], 0, [], []⟩) (L := (L_l_szMsgS a left)) Tryz.func192 ⟨⟨rfl, rfl⟩, rfl⟩ (fun hwf => ?_)
  refine Eq.mpr (β := (T8 (bif (ltI (IntKind.wrap .i64 (left - ((List.length a : Nat) : Int))) 0) then (True ∧ ((true = true ∧ leC (.int .i64 (-1)) (.int .i64 (szT left (bulk a)))) ∧ true = true)) else (True ∧ ((∃ q : Nat, (q ≤ List.length a ∧ ((List.length a : Nat) : Int) + ((bulkL (List.take q a) : Nat) : Int) ≤ left) ∧ ((leV (.c (.hs .no tyMsg a)) (.c (.hs .no tyMsg a)) ∧ leV (.c (.int .i64 (IntKind.wrap .i64 (left - ((List.length a : Nat) : Int))))) (.c (.int .i64 (left - ((List.length a : Nat) : Int) - ((bulkL (List.take q a) : Nat) : Int)))) ∧ leV (.tp []) (.tp []) ∧ leV (.tp []) (.tp []) ∧ True ∧ leV (.c (.int .i64 0)) (.c (.int .i64 ((q : Nat) : Int))) ∧ leV (.c (.int .i64 left)) (.c (.int .i64 left)) ∧ leV (.c (.hs .no tyMsg a)) (.c (.hs .no tyMsg a)) ∧ leV (.c (.int .i64 ((List.length a : Nat) : Int))) (.c (.int .i64 ((List.length a : Nat) : Int))) ∧ leV (.c (.int .i64 (IntKind.wrap .i64 (left - ((List.length a : Nat) : Int))))) (.c (.int .i64 (IntKind.wrap .i64 (left - ((List.length a : Nat) : Int))))) ∧ leV (.c (.int .i64 (IntKind.wrap .i64 (left - ((List.length a : Nat) : Int))))) (.c (.int .i64 (IntKind.wrap .i64 (left - ((List.length a : Nat) : Int))))) ∧ leV (.c (.bool false)) (.c (.bool false)) ∧ True ∧ True ∧ True ∧ True ∧ True ∧ True ∧ True ∧ True ∧ True ∧ True ∧ True ∧ True ∧ True ∧ True ∧ leV (.tp []) (.tp []) ∧ True) ∧ (True) ∧ true = true)) ∧ ∀ y0 : Nat, (y0 ≤ List.length a ∧ ((List.length a : Nat) : Int) + ((bulkL (List.take y0 a) : Nat) : Int) ≤ left) → (T4 (bif (ltI ((y0 : Nat) : Int) ((List.length a : Nat) : Int)) then (T2 (((3 : Nat) = 3 ∧ (0 : Int) ≤ ((y0 : Nat) : Int) ∧ (((y0 : Nat) : Int) : Int) < ((List.length a : Nat) : Int)) ∧ (T2 ((szP (left - ((List.length a : Nat) : Int) - ((bulkL (List.take y0 a) : Nat) : Int)) ∧ true = true) ∧ (T3 (bif (ltI (szT (left - ((List.length a : Nat) : Int) - ((bulkL (List.take y0 a) : Nat) : Int)) (bulk (nth_Msg a (Int.toNat ((y0 : Nat) : Int))))) 0) then (True ∧ ((true = true ∧ leC (.int .i64 (-1)) (.int .i64 (szT left (bulk a)))) ∧ true = true)) else (T3 (∃ y0' : Nat, (y0' ≤ List.length a ∧ ((List.length a : Nat) : Int) + ((bulkL (List.take y0' a) : Nat) : Int) ≤ left) ∧ (List.length a - y0') < (List.length a - y0) ∧ ((leV (.c (.hs .no tyMsg a)) (.c (.hs .no tyMsg a)) ∧ leV (.c (.int .i64 (szT (left - ((List.length a : Nat) : Int) - ((bulkL (List.take y0 a) : Nat) : Int)) (bulk (nth_Msg a (Int.toNat ((y0 : Nat) : Int))))))) (.c (.int .i64 (left - ((List.length a : Nat) : Int) - ((bulkL (List.take y0' a) : Nat) : Int)))) ∧ leV (.tp []) (.tp []) ∧ leV (.tp []) (.tp []) ∧ True ∧ leV (.c (.int .i64 (IntKind.wrap .i64 (((y0 : Nat) : Int) + 1)))) (.c (.int .i64 ((y0' : Nat) : Int))) ∧ leV (.c (.int .i64 left)) (.c (.int .i64 left)) ∧ leV (.c (.hs .no tyMsg a)) (.c (.hs .no tyMsg a)) ∧ leV (.c (.int .i64 ((List.length a : Nat) : Int))) (.c (.int .i64 ((List.length a : Nat) : Int))) ∧ leV (.c (.int .i64 (IntKind.wrap .i64 (left - ((List.length a : Nat) : Int))))) (.c (.int .i64 (IntKind.wrap .i64 (left - ((List.length a : Nat) : Int))))) ∧ leV (.c (.int .i64 (IntKind.wrap .i64 (left - ((List.length a : Nat) : Int))))) (.c (.int .i64 (IntKind.wrap .i64 (left - ((List.length a : Nat) : Int))))) ∧ leV (.c (.bool false)) (.c (.bool false)) ∧ True ∧ True ∧ True ∧ True ∧ True ∧ True ∧ True ∧ True ∧ True ∧ True ∧ True ∧ True ∧ True ∧ True ∧ leV (.tp []) (.tp []) ∧ True) ∧ (True) ∧ true = true))))))))) else (T2 ((true = true ∧ leC (.int .i64 (left - ((List.length a : Nat) : Int) - ((bulkL (List.take y0 a) : Nat) : Int))) (.int .i64 (szT left (bulk a)))) ∧ true = true))))))))) (by kernel_rfl) ?_
  unfold T2 T3 T4 T8
  obtain ⟨hp0, hp1⟩ := hpre
  have hm : a.length ≤ maxLen := hwf.1.1
  have H0 := szT_cases left (bulk a)
  have hb : bulk a = a.length + bulkL a := rfl
  have w0 := wrapD (left - ((List.length a : Nat) : Int))
  unfold maxLen at hm
  have z0 : bulkL (List.take 0 a) = 0 := rfl
  have z1 : bulkL (List.take a.length a) = bulkL a := by rw [List.take_length]
  simp only [SIA, eq_self]
  refine ⟨fun h => by omega, fun h => ⟨⟨0, ⟨Nat.zero_le _, by omega⟩, ?_⟩, fun k hk => ⟨fun hlt => ?_, fun hge => ?_⟩⟩⟩
  · first | (refine ⟨?_, ?_⟩ <;> omega) | omega
  · have hlt : k < a.length := by omega
    have hk := nth_getElem? (t := tyMsg) hlt
    have s1 : bulkL (List.take (k + 1) a) = bulkL (List.take k a) + bulk (nth_Msg a k) := bulkL_snoc hk
    have s2 : bulkL (List.take (k + 1) a) ≤ bulkL a := bulkL_le a (k + 1)
    have k1 := wrapN (k := k) (by unfold maxLen; omega)
    have w1 := szT_cases (left - ((List.length a : Nat) : Int) - ((bulkL (List.take k a) : Nat) : Int)) (bulk (nth_Msg a k))
    (try unfold maxLen at *)
    repeat' (first | apply And.intro | intro _)
    all_goals (first | trivial | omega | (refine ⟨k + 1, ⟨by omega, by omega⟩, by omega, ?_⟩; first | (refine ⟨?_, ?_⟩ <;> omega) | omega))
  · obtain rfl : k = a.length := by omega
    omega
def e_l_szMsgS : Entry Tryz.prog := ⟨192, [.v (.list tyMsg), .v tyInt], fun x => szP x.2.1, fun x => .c (.int .i64 (szT x.2.1 (bulk x.1))), fun _ => [], fun x hx => b_l_szMsgS x.1 x.2.1 hx, Tryz.call192⟩
set_option maxRecDepth 100000 in
set_option maxHeartbeats 2000000 in
theorem b_l_szBox (a : GBox) (left : Int) (hpre : szP left) : BCalls Tryz.prog 122 [.ag (cellsOf tyBox a), .c (.int .i64 left)] (.c (.int .i64 (szT left (bulk a)))) [] := by
  refine bcalls_of (T := ⟨[e_l_szMsgS], [], [], [], none, fun _ => [], 0, [], []⟩) (L := L0) Tryz.func122 ⟨⟨rfl, rfl⟩, rfl⟩ (fun hwf => ?_)
  refine Eq.mpr (β := (T10 (bif (ltI (IntKind.wrap .i64 (left - ((ByteArray.size a.1 : Nat) : Int))) 0) then (True ∧ ((true = true ∧ leC (.int .i64 (-1)) (.int .i64 (szT left (bulk a)))) ∧ true = true)) else (T3 ((szP (IntKind.wrap .i64 (left - ((ByteArray.size a.1 : Nat) : Int))) ∧ true = true) ∧ (T3 (bif (ltI (szT (IntKind.wrap .i64 (left - ((ByteArray.size a.1 : Nat) : Int))) (bulk a.2.2.2)) 0) then (True ∧ ((true = true ∧ leC (.int .i64 (-1)) (.int .i64 (szT left (bulk a)))) ∧ true = true)) else (T2 ((true = true ∧ leC (.int .i64 (szT (IntKind.wrap .i64 (left - ((ByteArray.size a.1 : Nat) : Int))) (bulk a.2.2.2))) (.int .i64 (szT left (bulk a)))) ∧ true = true))))))))) (by kernel_rfl) ?_
  unfold T10 T2 T3
  obtain ⟨hp0, hp1⟩ := hpre
  have H0 := szT_cases left (bulk a)
  have hb : bulk a = ByteArray.size a.1 + bulk a.2.2.2 := by
    have e : bulk a = ByteArray.size a.1 + (0 + (0 + (bulk a.2.2.2))) := rfl
    omega
  have m0 : ByteArray.size a.1 ≤ maxLen := hwf.1.1
  have w0 := wrapD (left - ((ByteArray.size a.1 : Nat) : Int))
  have w3 := szT_cases (IntKind.wrap .i64 (left - ((ByteArray.size a.1 : Nat) : Int))) (bulk a.2.2.2)
  try unfold maxLen at *
  simp only [SIA, eq_self]
  repeat' (first | apply And.intro | intro _)
  all_goals (first | trivial | omega)
def e_l_szBox : Entry Tryz.prog := ⟨122, [.s tyBox, .v tyInt], fun x => szP x.2.1, fun x => .c (.int .i64 (szT x.2.1 (bulk x.1))), fun _ => [], fun x hx => b_l_szBox x.1 x.2.1 hx, Tryz.call122⟩
def L_l_szBoxS (a : List GBox) (left : Int) : Nat → List AV → Mem → LoopA
  | 5, tm, M => ⟨Nat, fun y => (setA tm [(1, .c (.int .i64 (left - ((List.length a : Nat) : Int) - ((bulkL (List.take y a) : Nat) : Int)))), (4, .any), (5, .c (.int .i64 ((y : Nat) : Int))), (12, .any), (13, .any), (14, .any), (15, .any), (16, .any), (17, .any), (18, .any), (19, .any), (20, .any), (21, .any), (22, .any), (23, .any), (24, .any), (25, .any)], M), fun y => (y ≤ List.length a ∧ ((List.length a : Nat) : Int) + ((bulkL (List.take y a) : Nat) : Int) ≤ left), fun y => (List.length a - y)⟩
  | _, _, _ => ⟨Unit, fun _ => ([], []), fun _ => False, fun _ => 0⟩
set_option maxRecDepth 100000 in
set_option maxHeartbeats 400000 in
theorem b_l_szBoxS (a : List GBox) (left : Int) (hpre : szP left) : BCalls Tryz.prog 49 [.c (.hs .no tyBox a), .c (.int .i64 left)] (.c (.int .i64 (szT left (bulk a)))) [] := by
  refine bcalls_of (T := ⟨[e_l_szBox], [], [], [], none, fun _ => [], 0, [], []⟩) (L := (L_l_szBoxS a left)) Tryz.func49 ⟨⟨rfl, rfl⟩, rfl⟩ (fun hwf => ?_)
  refine Eq.mpr (β := (T8 (bif (ltI (IntKind.wrap .i64 (left - ((List.length a : Nat) : Int))) 0) then (True ∧ ((true = true ∧ leC (.int .i64 (-1)) (.int .i64 (szT left (bulk a)))) ∧ true = true)) else (True ∧ ((∃ q : Nat, (q ≤ List.length a ∧ ((List.length a : Nat) : Int) + ((bulkL (List.take q a) : Nat) : Int) ≤ left) ∧ ((leV (.c (.hs .no tyBox a)) (.c (.hs .no tyBox a)) ∧ leV (.c (.int .i64 (IntKind.wrap .i64 (left - ((List.length a : Nat) : Int))))) (.c (.int .i64 (left - ((List.length a : Nat) : Int) - ((bulkL (List.take q a) : Nat) : Int)))) ∧ leV (.tp []) (.tp []) ∧ leV (.tp []) (.tp []) ∧ True ∧ leV (.c (.int .i64 0)) (.c (.int .i64 ((q : Nat) : Int))) ∧ leV (.c (.int .i64 left)) (.c (.int .i64 left)) ∧ leV (.c (.hs .no tyBox a)) (.c (.hs .no tyBox a)) ∧ leV (.c (.int .i64 ((List.length a : Nat) : Int))) (.c (.int .i64 ((List.length a : Nat) : Int))) ∧ leV (.c (.int .i64 (IntKind.wrap .i64 (left - ((List.length a : Nat) : Int))))) (.c (.int .i64 (IntKind.wrap .i64 (left - ((List.length a : Nat) : Int))))) ∧ leV (.c (.int .i64 (IntKind.wrap .i64 (left - ((List.length a : Nat) : Int))))) (.c (.int .i64 (IntKind.wrap .i64 (left - ((List.length a : Nat) : Int))))) ∧ leV (.c (.bool false)) (.c (.bool false)) ∧ True ∧ True ∧ True ∧ True ∧ True ∧ True ∧ True ∧ True ∧ True ∧ True ∧ True ∧ True ∧ True ∧ True ∧ leV (.tp []) (.tp []) ∧ True) ∧ (True) ∧ true = true)) ∧ ∀ y0 : Nat, (y0 ≤ List.length a ∧ ((List.length a : Nat) : Int) + ((bulkL (List.take y0 a) : Nat) : Int) ≤ left) → (T4 (bif (ltI ((y0 : Nat) : Int) ((List.length a : Nat) : Int)) then (T2 (((4 : Nat) = 4 ∧ (0 : Int) ≤ ((y0 : Nat) : Int) ∧ (((y0 : Nat) : Int) : Int) < ((List.length a : Nat) : Int)) ∧ (T2 ((szP (left - ((List.length a : Nat) : Int) - ((bulkL (List.take y0 a) : Nat) : Int)) ∧ true = true) ∧ (T3 (bif (ltI (szT (left - ((List.length a : Nat) : Int) - ((bulkL (List.take y0 a) : Nat) : Int)) (bulk (nth_Box a (Int.toNat ((y0 : Nat) : Int))))) 0) then (True ∧ ((true = true ∧ leC (.int .i64 (-1)) (.int .i64 (szT left (bulk a)))) ∧ true = true)) else (T3 (∃ y0' : Nat, (y0' ≤ List.length a ∧ ((List.length a : Nat) : Int) + ((bulkL (List.take y0' a) : Nat) : Int) ≤ left) ∧ (List.length a - y0') < (List.length a - y0) ∧ ((leV (.c (.hs .no tyBox a)) (.c (.hs .no tyBox a)) ∧ leV (.c (.int .i64 (szT (left - ((List.length a : Nat) : Int) - ((bulkL (List.take y0 a) : Nat) : Int)) (bulk (nth_Box a (Int.toNat ((y0 : Nat) : Int))))))) (.c (.int .i64 (left - ((List.length a : Nat) : Int) - ((bulkL (List.take y0' a) : Nat) : Int)))) ∧ leV (.tp []) (.tp []) ∧ leV (.tp []) (.tp []) ∧ True ∧ leV (.c (.int .i64 (IntKind.wrap .i64 (((y0 : Nat) : Int) + 1)))) (.c (.int .i64 ((y0' : Nat) : Int))) ∧ leV (.c (.int .i64 left)) (.c (.int .i64 left)) ∧ leV (.c (.hs .no tyBox a)) (.c (.hs .no tyBox a)) ∧ leV (.c (.int .i64 ((List.length a : Nat) : Int))) (.c (.int .i64 ((List.length a : Nat) : Int))) ∧ leV (.c (.int .i64 (IntKind.wrap .i64 (left - ((List.length a : Nat) : Int))))) (.c (.int .i64 (IntKind.wrap .i64 (left - ((List.length a : Nat) : Int))))) ∧ leV (.c (.int .i64 (IntKind.wrap .i64 (left - ((List.length a : Nat) : Int))))) (.c (.int .i64 (IntKind.wrap .i64 (left - ((List.length a : Nat) : Int))))) ∧ leV (.c (.bool false)) (.c (.bool false)) ∧ True ∧ True ∧ True ∧ True ∧ True ∧ True ∧ True ∧ True ∧ True ∧ True ∧ True ∧ True ∧ True ∧ True ∧ leV (.tp []) (.tp []) ∧ True) ∧ (True) ∧ true = true))))))))) else (T2 ((true = true ∧ leC (.int .i64 (left - ((List.length a : Nat) : Int) - ((bulkL (List.take y0 a) : Nat) : Int))) (.int .i64 (szT left (bulk a)))) ∧ true = true))))))))) (by kernel_rfl) ?_
  unfold T2 T3 T4 T8
  obtain ⟨hp0, hp1⟩ := hpre
  have hm : a.length ≤ maxLen := hwf.1.1
  have H0 := szT_cases left (bulk a)
  have hb : bulk a = a.length + bulkL a := rfl
  have w0 := wrapD (left - ((List.length a : Nat) : Int))
  unfold maxLen at hm
  have z0 : bulkL (List.take 0 a) = 0 := rfl
  have z1 : bulkL (List.take a.length a) = bulkL a := by rw [List.take_length]
  simp only [SIA, eq_self]
  refine ⟨fun h => by omega, fun h => ⟨⟨0, ⟨Nat.zero_le _, by omega⟩, ?_⟩, fun k hk => ⟨fun hlt => ?_, fun hge => ?_⟩⟩⟩
  · first | (refine ⟨?_, ?_⟩ <;> omega) | omega
  · have hlt : k < a.length := by omega
    have hk := nth_getElem? (t := tyBox) hlt
    have s1 : bulkL (List.take (k + 1) a) = bulkL (List.take k a) + bulk (nth_Box a k) := bulkL_snoc hk
    have s2 : bulkL (List.take (k + 1) a) ≤ bulkL a := bulkL_le a (k + 1)
    have k1 := wrapN (k := k) (by unfold maxLen; omega)
    have w1 := szT_cases (left - ((List.length a : Nat) : Int) - ((bulkL (List.take k a) : Nat) : Int)) (bulk (nth_Box a k))
    (try unfold maxLen at *)
    repeat' (first | apply And.intro | intro _)
    all_goals (first | trivial | omega | (refine ⟨k + 1, ⟨by omega, by omega⟩, by omega, ?_⟩; first | (refine ⟨?_, ?_⟩ <;> omega) | omega))
  · obtain rfl : k = a.length := by omega
    omega
def e_l_szBoxS : Entry Tryz.prog := ⟨49, [.v (.list tyBox), .v tyInt], fun x => szP x.2.1, fun x => .c (.int .i64 (szT x.2.1 (bulk x.1))), fun _ => [], fun x hx => b_l_szBoxS x.1 x.2.1 hx, Tryz.call49⟩
set_option maxRecDepth 100000 in
set_option maxHeartbeats 2000000 in
theorem b_l_szCommit (a : GCommit) (left : Int) (hpre : szP left) : BCalls Tryz.prog 123 [.ag (cellsOf tyCommit a), .c (.int .i64 left)] (.c (.int .i64 (szT left (bulk a)))) [] := by
  refine bcalls_of (T := ⟨[], [], [], [], none, fun _ => [], 0, [], []⟩) (L := L0) Tryz.func123 ⟨⟨rfl, rfl⟩, rfl⟩ (fun hwf => ?_)
  refine Eq.mpr (β := (T10 (bif (ltI (IntKind.wrap .i64 (left - ((ByteArray.size a.2.2.2.2.1 : Nat) : Int))) 0) then (True ∧ ((true = true ∧ leC (.int .i64 (-1)) (.int .i64 (szT left (bulk a)))) ∧ true = true)) else (T8 (bif (ltI (IntKind.wrap .i64 ((IntKind.wrap .i64 (left - ((ByteArray.size a.2.2.2.2.1 : Nat) : Int))) - ((ByteArray.size a.2.2.2.2.2 : Nat) : Int))) 0) then (True ∧ ((true = true ∧ leC (.int .i64 (-1)) (.int .i64 (szT left (bulk a)))) ∧ true = true)) else (T2 ((true = true ∧ leC (.int .i64 (IntKind.wrap .i64 ((IntKind.wrap .i64 (left - ((ByteArray.size a.2.2.2.2.1 : Nat) : Int))) - ((ByteArray.size a.2.2.2.2.2 : Nat) : Int)))) (.int .i64 (szT left (bulk a)))) ∧ true = true))))))) (by kernel_rfl) ?_
  unfold T10 T2 T8
  obtain ⟨hp0, hp1⟩ := hpre
  have H0 := szT_cases left (bulk a)
  have hb : bulk a = ByteArray.size a.2.2.2.2.1 + ByteArray.size a.2.2.2.2.2 := by
    have e : bulk a = 0 + (0 + (0 + (0 + (ByteArray.size a.2.2.2.2.1 + (ByteArray.size a.2.2.2.2.2))))) := rfl
    omega
  have m4 : ByteArray.size a.2.2.2.2.1 ≤ maxLen := hwf.1.2.2.2.2.1
  have m5 : ByteArray.size a.2.2.2.2.2 ≤ maxLen := hwf.1.2.2.2.2.2.1
  have w4 := wrapD (left - ((ByteArray.size a.2.2.2.2.1 : Nat) : Int))
  have w5 := wrapD ((IntKind.wrap .i64 (left - ((ByteArray.size a.2.2.2.2.1 : Nat) : Int))) - ((ByteArray.size a.2.2.2.2.2 : Nat) : Int))
  try unfold maxLen at *
  simp only [SIA, eq_self]
  repeat' (first | apply And.intro | intro _)
  all_goals (first | trivial | omega)
def e_l_szCommit : Entry Tryz.prog := ⟨123, [.s tyCommit, .v tyInt], fun x => szP x.2.1, fun x => .c (.int .i64 (szT x.2.1 (bulk x.1))), fun _ => [], fun x hx => b_l_szCommit x.1 x.2.1 hx, Tryz.call123⟩
def L_l_szCommitS (a : List GCommit) (left : Int) : Nat → List AV → Mem → LoopA
  | 5, tm, M => ⟨Nat, fun y => (setA tm [(1, .c (.int .i64 (left - ((List.length a : Nat) : Int) - ((bulkL (List.take y a) : Nat) : Int)))), (4, .any), (5, .c (.int .i64 ((y : Nat) : Int))), (12, .any), (13, .any), (14, .any), (15, .any), (16, .any), (17, .any), (18, .any), (19, .any), (20, .any), (21, .any), (22, .any), (23, .any), (24, .any), (25, .any)], M), fun y => (y ≤ List.length a ∧ ((List.length a : Nat) : Int) + ((bulkL (List.take y a) : Nat) : Int) ≤ left), fun y => (List.length a - y)⟩
  | _, _, _ => ⟨Unit, fun _ => ([], []), fun _ => False, fun _ => 0⟩
set_option maxRecDepth 100000 in
set_option maxHeartbeats 400000 in
theorem b_l_szCommitS (a : List GCommit) (left : Int) (hpre : szP left) : BCalls Tryz.prog 50 [.c (.hs .no tyCommit a), .c (.int .i64 left)] (.c (.int .i64 (szT left (bulk a)))) [] := by
  refine bcalls_of (T := ⟨[e_l_szCommit], [], [], [], none, fun _ => [], 0, [], []⟩) (L := (L_l_szCommitS a left)) Tryz.func50 ⟨⟨rfl, rfl⟩, rfl⟩ (fun hwf => ?_)
  refine Eq.mpr (β := (T8 (bif (ltI (IntKind.wrap .i64 (left - ((List.length a : Nat) : Int))) 0) then (True ∧ ((true = true ∧ leC (.int .i64 (-1)) (.int .i64 (szT left (bulk a)))) ∧ true = true)) else (True ∧ ((∃ q : Nat, (q ≤ List.length a ∧ ((List.length a : Nat) : Int) + ((bulkL (List.take q a) : Nat) : Int) ≤ left) ∧ ((leV (.c (.hs .no tyCommit a)) (.c (.hs .no tyCommit a)) ∧ leV (.c (.int .i64 (IntKind.wrap .i64 (left - ((List.length a : Nat) : Int))))) (.c (.int .i64 (left - ((List.length a : Nat) : Int) - ((bulkL (List.take q a) : Nat) : Int)))) ∧ leV (.tp []) (.tp []) ∧ leV (.tp []) (.tp []) ∧ True ∧ leV (.c (.int .i64 0)) (.c (.int .i64 ((q : Nat) : Int))) ∧ leV (.c (.int .i64 left)) (.c (.int .i64 left)) ∧ leV (.c (.hs .no tyCommit a)) (.c (.hs .no tyCommit a)) ∧ leV (.c (.int .i64 ((List.length a : Nat) : Int))) (.c (.int .i64 ((List.length a : Nat) : Int))) ∧ leV (.c (.int .i64 (IntKind.wrap .i64 (left - ((List.length a : Nat) : Int))))) (.c (.int .i64 (IntKind.wrap .i64 (left - ((List.length a : Nat) : Int))))) ∧ leV (.c (.int .i64 (IntKind.wrap .i64 (left - ((List.length a : Nat) : Int))))) (.c (.int .i64 (IntKind.wrap .i64 (left - ((List.length a : Nat) : Int))))) ∧ leV (.c (.bool false)) (.c (.bool false)) ∧ True ∧ True ∧ True ∧ True ∧ True ∧ True ∧ True ∧ True ∧ True ∧ True ∧ True ∧ True ∧ True ∧ True ∧ leV (.tp []) (.tp []) ∧ True) ∧ (True) ∧ true = true)) ∧ ∀ y0 : Nat, (y0 ≤ List.length a ∧ ((List.length a : Nat) : Int) + ((bulkL (List.take y0 a) : Nat) : Int) ≤ left) → (T4 (bif (ltI ((y0 : Nat) : Int) ((List.length a : Nat) : Int)) then (T2 (((6 : Nat) = 6 ∧ (0 : Int) ≤ ((y0 : Nat) : Int) ∧ (((y0 : Nat) : Int) : Int) < ((List.length a : Nat) : Int)) ∧ (T2 ((szP (left - ((List.length a : Nat) : Int) - ((bulkL (List.take y0 a) : Nat) : Int)) ∧ true = true) ∧ (T3 (bif (ltI (szT (left - ((List.length a : Nat) : Int) - ((bulkL (List.take y0 a) : Nat) : Int)) (bulk (nth_Commit a (Int.toNat ((y0 : Nat) : Int))))) 0) then (True ∧ ((true = true ∧ leC (.int .i64 (-1)) (.int .i64 (szT left (bulk a)))) ∧ true = true)) else (T3 (∃ y0' : Nat, (y0' ≤ List.length a ∧ ((List.length a : Nat) : Int) + ((bulkL (List.take y0' a) : Nat) : Int) ≤ left) ∧ (List.length a - y0') < (List.length a - y0) ∧ ((leV (.c (.hs .no tyCommit a)) (.c (.hs .no tyCommit a)) ∧ leV (.c (.int .i64 (szT (left - ((List.length a : Nat) : Int) - ((bulkL (List.take y0 a) : Nat) : Int)) (bulk (nth_Commit a (Int.toNat ((y0 : Nat) : Int))))))) (.c (.int .i64 (left - ((List.length a : Nat) : Int) - ((bulkL (List.take y0' a) : Nat) : Int)))) ∧ leV (.tp []) (.tp []) ∧ leV (.tp []) (.tp []) ∧ True ∧ leV (.c (.int .i64 (IntKind.wrap .i64 (((y0 : Nat) : Int) + 1)))) (.c (.int .i64 ((y0' : Nat) : Int))) ∧ leV (.c (.int .i64 left)) (.c (.int .i64 left)) ∧ leV (.c (.hs .no tyCommit a)) (.c (.hs .no tyCommit a)) ∧ leV (.c (.int .i64 ((List.length a : Nat) : Int))) (.c (.int .i64 ((List.length a : Nat) : Int))) ∧ leV (.c (.int .i64 (IntKind.wrap .i64 (left - ((List.length a : Nat) : Int))))) (.c (.int .i64 (IntKind.wrap .i64 (left - ((List.length a : Nat) : Int))))) ∧ leV (.c (.int .i64 (IntKind.wrap .i64 (left - ((List.length a : Nat) : Int))))) (.c (.int .i64 (IntKind.wrap .i64 (left - ((List.length a : Nat) : Int))))) ∧ leV (.c (.bool false)) (.c (.bool false)) ∧ True ∧ True ∧ True ∧ True ∧ True ∧ True ∧ True ∧ True ∧ True ∧ True ∧ True ∧ True ∧ True ∧ True ∧ leV (.tp []) (.tp []) ∧ True) ∧ (True) ∧ true = true))))))))) else (T2 ((true = true ∧ leC (.int .i64 (left - ((List.length a : Nat) : Int) - ((bulkL (List.take y0 a) : Nat) : Int))) (.int .i64 (szT left (bulk a)))) ∧ true = true))))))))) (by kernel_rfl) ?_
  unfold T2 T3 T4 T8
  obtain ⟨hp0, hp1⟩ := hpre
  have hm : a.length ≤ maxLen := hwf.1.1
  have H0 := szT_cases left (bulk a)
  have hb : bulk a = a.length + bulkL a := rfl
  have w0 := wrapD (left - ((List.length a : Nat) : Int))
  unfold maxLen at hm
  have z0 : bulkL (List.take 0 a) = 0 := rfl
  have z1 : bulkL (List.take a.length a) = bulkL a := by rw [List.take_length]
  simp only [SIA, eq_self]
  refine ⟨fun h => by omega, fun h => ⟨⟨0, ⟨Nat.zero_le _, by omega⟩, ?_⟩, fun k hk => ⟨fun hlt => ?_, fun hge => ?_⟩⟩⟩
  · first | (refine ⟨?_, ?_⟩ <;> omega) | omega
  · have hlt : k < a.length := by omega
    have hk := nth_getElem? (t := tyCommit) hlt
    have s1 : bulkL (List.take (k + 1) a) = bulkL (List.take k a) + bulk (nth_Commit a k) := bulkL_snoc hk
    have s2 : bulkL (List.take (k + 1) a) ≤ bulkL a := bulkL_le a (k + 1)
    have k1 := wrapN (k := k) (by unfold maxLen; omega)
    have w1 := szT_cases (left - ((List.length a : Nat) : Int) - ((bulkL (List.take k a) : Nat) : Int)) (bulk (nth_Commit a k))
    (try unfold maxLen at *)
    repeat' (first | apply And.intro | intro _)
    all_goals (first | trivial | omega | (refine ⟨k + 1, ⟨by omega, by omega⟩, by omega, ?_⟩; first | (refine ⟨?_, ?_⟩ <;> omega) | omega))
  · obtain rfl : k = a.length := by omega
    omega
def e_l_szCommitS : Entry Tryz.prog := ⟨50, [.v (.list tyCommit), .v tyInt], fun x => szP x.2.1, fun x => .c (.int .i64 (szT x.2.1 (bulk x.1))), fun _ => [], fun x hx => b_l_szCommitS x.1 x.2.1 hx, Tryz.call50⟩
set_option maxRecDepth 100000 in
set_option maxHeartbeats 2000000 in
theorem b_l_szStore (a : GStore) (left : Int) (hpre : szP left) : BCalls Tryz.prog 12 [.ag (cellsOf tyStore a), .c (.int .i64 left)] (.c (.int .i64 (szT left (bulk a)))) [] := by
  refine bcalls_of (T := ⟨[e_l_szBoxS, e_l_szCommitS], [], [], [], none, fun _ => [], 0, [], []⟩) (L := L0) Tryz.func12 ⟨⟨rfl, rfl⟩, rfl⟩ (fun hwf => ?_)
  refine Eq.mpr (β := (True ∧ (True ∧ (True ∧ (True ∧ (True ∧ ((szP left ∧ true = true) ∧ (True ∧ (True ∧ (True ∧ (bif (ltI (szT left (bulk a.1)) 0) then (True ∧ ((true = true ∧ leC (.int .i64 (-1)) (.int .i64 (szT left (bulk a)))) ∧ true = true)) else (True ∧ (True ∧ (True ∧ ((szP (szT left (bulk a.1)) ∧ true = true) ∧ (True ∧ (True ∧ (True ∧ (bif (ltI (szT (szT left (bulk a.1)) (bulk a.2.1)) 0) then (True ∧ ((true = true ∧ leC (.int .i64 (-1)) (.int .i64 (szT left (bulk a)))) ∧ true = true)) else (True ∧ (True ∧ ((true = true ∧ leC (.int .i64 (szT (szT left (bulk a.1)) (bulk a.2.1))) (.int .i64 (szT left (bulk a)))) ∧ true = true)))))))))))))))))))))) (by kernel_rfl) ?_
  obtain ⟨hp0, hp1⟩ := hpre
  have H0 := szT_cases left (bulk a)
  have hb : bulk a = bulk a.1 + bulk a.2.1 := by
    have e : bulk a = bulk a.1 + (bulk a.2.1 + (0)) := rfl
    omega
  have w0 := szT_cases left (bulk a.1)
  have w1 := szT_cases (szT left (bulk a.1)) (bulk a.2.1)
  try unfold maxLen at *
  simp only [SIA, eq_self]
  repeat' (first | apply And.intro | intro _)
  all_goals (first | trivial | omega)
def e_l_szStore : Entry Tryz.prog := ⟨12, [.s tyStore, .v tyInt], fun x => szP x.2.1, fun x => .c (.int .i64 (szT x.2.1 (bulk x.1))), fun _ => [], fun x hx => b_l_szStore x.1 x.2.1 hx, Tryz.call12⟩
set_option maxRecDepth 100000 in
set_option maxHeartbeats 400000 in
theorem b_l_szSeenS (a : List GSpan) (left : Int) (hpre : szP left) : BCalls Tryz.prog 130 [.c (.hs .no tySpan a), .c (.int .i64 left)] (.c (.int .i64 (szT left (bulk a)))) [] := by
  refine bcalls_of (T := ⟨[], [], [], [], none, fun _ => [], 0, [], []⟩) (L := L0) Tryz.func130 ⟨⟨rfl, rfl⟩, rfl⟩ (fun hwf => ?_)
  refine Eq.mpr (β := (True ∧ (True ∧ (True ∧ (True ∧ (True ∧ (True ∧ (True ∧ (True ∧ (bif (ltI (IntKind.wrap .i64 (left - ((List.length a : Nat) : Int))) 0) then (True ∧ ((true = true ∧ leC (.int .i64 (-1)) (.int .i64 (szT left (bulk a)))) ∧ true = true)) else (True ∧ (True ∧ ((true = true ∧ leC (.int .i64 (IntKind.wrap .i64 (left - ((List.length a : Nat) : Int)))) (.int .i64 (szT left (bulk a)))) ∧ true = true))))))))))))) (by kernel_rfl) ?_
  obtain ⟨hp0, hp1⟩ := hpre
  have hm : a.length ≤ maxLen := hwf.1.1
  have H0 := szT_cases left (bulk a)
  have hb : bulk a = a.length + bulkL a := rfl
  have w0 := wrapD (left - ((List.length a : Nat) : Int))
  unfold maxLen at hm
  have z1 : bulkL a = 0 := bulkL_flat (fun _ => rfl) a
  simp only [SIA, eq_self]
  repeat' (first | apply And.intro | intro _)
  all_goals (first | trivial | omega)
def e_l_szSeenS : Entry Tryz.prog := ⟨130, [.v (.list tySpan), .v tyInt], fun x => szP x.2.1, fun x => .c (.int .i64 (szT x.2.1 (bulk x.1))), fun _ => [], fun x hx => b_l_szSeenS x.1 x.2.1 hx, Tryz.call130⟩
set_option maxRecDepth 100000 in
set_option maxHeartbeats 2000000 in
theorem b_l_szView (a : List GSpan) (left : Int) (hpre : szP left) : BCalls Tryz.prog 57 [.ag [.hs .no tySpan a], .c (.int .i64 left)] (.c (.int .i64 (szT left (bulk a)))) [] := by
  refine bcalls_of (T := ⟨[e_l_szSeenS], [], [], [], none, fun _ => [], 0, [], []⟩) (L := L0) Tryz.func57 ⟨⟨rfl, rfl⟩, rfl⟩ (fun hwf => ?_)
  refine Eq.mpr (β := (True ∧ (True ∧ (True ∧ (True ∧ (True ∧ ((szP left ∧ true = true) ∧ (True ∧ (True ∧ (True ∧ (bif (ltI (szT left (bulk a)) 0) then (True ∧ ((true = true ∧ leC (.int .i64 (-1)) (.int .i64 (szT left (bulk a)))) ∧ true = true)) else (True ∧ (True ∧ ((true = true ∧ leC (.int .i64 (szT left (bulk a))) (.int .i64 (szT left (bulk a)))) ∧ true = true)))))))))))))) (by kernel_rfl) ?_
  obtain ⟨hp0, hp1⟩ := hpre
  have H0 := szT_cases left (bulk a)
  have hb : bulk a = bulk a := by
    have e : bulk a = bulk a := rfl
    omega
  have w0 := szT_cases left (bulk a)
  try unfold maxLen at *
  simp only [SIA, eq_self]
  repeat' (first | apply And.intro | intro _)
  all_goals (first | trivial | omega)
def e_l_szView : Entry Tryz.prog := ⟨57, [.s (.list tySpan), .v tyInt], fun x => szP x.2.1, fun x => .c (.int .i64 (szT x.2.1 (bulk x.1))), fun _ => [], fun x hx => b_l_szView x.1 x.2.1 hx, Tryz.call57⟩
set_option maxRecDepth 100000 in
set_option maxHeartbeats 2000000 in
theorem b_l_szNote (a : GNote) (left : Int) (hpre : szP left) : BCalls Tryz.prog 196 [.ag (cellsOf tyNote a), .c (.int .i64 left)] (.c (.int .i64 (szT left (bulk a)))) [] := by
  refine bcalls_of (T := ⟨[], [], [], [], none, fun _ => [], 0, [], []⟩) (L := L0) Tryz.func196 ⟨⟨rfl, rfl⟩, rfl⟩ (fun hwf => ?_)
  refine Eq.mpr (β := (True ∧ (True ∧ (True ∧ (True ∧ (True ∧ (True ∧ (True ∧ (True ∧ (True ∧ (True ∧ (bif (ltI (IntKind.wrap .i64 (left - ((ByteArray.size a.2.2.2 : Nat) : Int))) 0) then (True ∧ ((true = true ∧ leC (.int .i64 (-1)) (.int .i64 (szT left (bulk a)))) ∧ true = true)) else (True ∧ (True ∧ ((true = true ∧ leC (.int .i64 (IntKind.wrap .i64 (left - ((ByteArray.size a.2.2.2 : Nat) : Int)))) (.int .i64 (szT left (bulk a)))) ∧ true = true))))))))))))))) (by kernel_rfl) ?_
  obtain ⟨hp0, hp1⟩ := hpre
  have H0 := szT_cases left (bulk a)
  have hb : bulk a = ByteArray.size a.2.2.2 := by
    have e : bulk a = 0 + (0 + (0 + (ByteArray.size a.2.2.2))) := rfl
    omega
  have m3 : ByteArray.size a.2.2.2 ≤ maxLen := hwf.1.2.2.2.1
  have w3 := wrapD (left - ((ByteArray.size a.2.2.2 : Nat) : Int))
  try unfold maxLen at *
  simp only [SIA, eq_self]
  repeat' (first | apply And.intro | intro _)
  all_goals (first | trivial | omega)
def e_l_szNote : Entry Tryz.prog := ⟨196, [.s tyNote, .v tyInt], fun x => szP x.2.1, fun x => .c (.int .i64 (szT x.2.1 (bulk x.1))), fun _ => [], fun x hx => b_l_szNote x.1 x.2.1 hx, Tryz.call196⟩
def L_l_szNoteS (a : List GNote) (left : Int) : Nat → List AV → Mem → LoopA
  | 5, tm, M => ⟨Nat, fun y => (setA tm [(1, .c (.int .i64 (left - ((List.length a : Nat) : Int) - ((bulkL (List.take y a) : Nat) : Int)))), (4, .any), (5, .c (.int .i64 ((y : Nat) : Int))), (12, .any), (13, .any), (14, .any), (15, .any), (16, .any), (17, .any), (18, .any), (19, .any), (20, .any), (21, .any), (22, .any), (23, .any), (24, .any), (25, .any)], M), fun y => (y ≤ List.length a ∧ ((List.length a : Nat) : Int) + ((bulkL (List.take y a) : Nat) : Int) ≤ left), fun y => (List.length a - y)⟩
  | _, _, _ => ⟨Unit, fun _ => ([], []), fun _ => False, fun _ => 0⟩
set_option maxRecDepth 100000 in
set_option maxHeartbeats 400000 in
theorem b_l_szNoteS (a : List GNote) (left : Int) (hpre : szP left) : BCalls Tryz.prog 132 [.c (.hs .no tyNote a), .c (.int .i64 left)] (.c (.int .i64 (szT left (bulk a)))) [] := by
  refine bcalls_of (T := ⟨[e_l_szNote], [], [], [], none, fun _ => [], 0, [], []⟩) (L := (L_l_szNoteS a left)) Tryz.func132 ⟨⟨rfl, rfl⟩, rfl⟩ (fun hwf => ?_)
  refine Eq.mpr (β := (T8 (bif (ltI (IntKind.wrap .i64 (left - ((List.length a : Nat) : Int))) 0) then (True ∧ ((true = true ∧ leC (.int .i64 (-1)) (.int .i64 (szT left (bulk a)))) ∧ true = true)) else (True ∧ ((∃ q : Nat, (q ≤ List.length a ∧ ((List.length a : Nat) : Int) + ((bulkL (List.take q a) : Nat) : Int) ≤ left) ∧ ((leV (.c (.hs .no tyNote a)) (.c (.hs .no tyNote a)) ∧ leV (.c (.int .i64 (IntKind.wrap .i64 (left - ((List.length a : Nat) : Int))))) (.c (.int .i64 (left - ((List.length a : Nat) : Int) - ((bulkL (List.take q a) : Nat) : Int)))) ∧ leV (.tp []) (.tp []) ∧ leV (.tp []) (.tp []) ∧ True ∧ leV (.c (.int .i64 0)) (.c (.int .i64 ((q : Nat) : Int))) ∧ leV (.c (.int .i64 left)) (.c (.int .i64 left)) ∧ leV (.c (.hs .no tyNote a)) (.c (.hs .no tyNote a)) ∧ leV (.c (.int .i64 ((List.length a : Nat) : Int))) (.c (.int .i64 ((List.length a : Nat) : Int))) ∧ leV (.c (.int .i64 (IntKind.wrap .i64 (left - ((List.length a : Nat) : Int))))) (.c (.int .i64 (IntKind.wrap .i64 (left - ((List.length a : Nat) : Int))))) ∧ leV (.c (.int .i64 (IntKind.wrap .i64 (left - ((List.length a : Nat) : Int))))) (.c (.int .i64 (IntKind.wrap .i64 (left - ((List.length a : Nat) : Int))))) ∧ leV (.c (.bool false)) (.c (.bool false)) ∧ True ∧ True ∧ True ∧ True ∧ True ∧ True ∧ True ∧ True ∧ True ∧ True ∧ True ∧ True ∧ True ∧ True ∧ leV (.tp []) (.tp []) ∧ True) ∧ (True) ∧ true = true)) ∧ ∀ y0 : Nat, (y0 ≤ List.length a ∧ ((List.length a : Nat) : Int) + ((bulkL (List.take y0 a) : Nat) : Int) ≤ left) → (T4 (bif (ltI ((y0 : Nat) : Int) ((List.length a : Nat) : Int)) then (T2 (((4 : Nat) = 4 ∧ (0 : Int) ≤ ((y0 : Nat) : Int) ∧ (((y0 : Nat) : Int) : Int) < ((List.length a : Nat) : Int)) ∧ (T2 ((szP (left - ((List.length a : Nat) : Int) - ((bulkL (List.take y0 a) : Nat) : Int)) ∧ true = true) ∧ (T3 (bif (ltI (szT (left - ((List.length a : Nat) : Int) - ((bulkL (List.take y0 a) : Nat) : Int)) (bulk (nth_Note a (Int.toNat ((y0 : Nat) : Int))))) 0) then (True ∧ ((true = true ∧ leC (.int .i64 (-1)) (.int .i64 (szT left (bulk a)))) ∧ true = true)) else (T3 (∃ y0' : Nat, (y0' ≤ List.length a ∧ ((List.length a : Nat) : Int) + ((bulkL (List.take y0' a) : Nat) : Int) ≤ left) ∧ (List.length a - y0') < (List.length a - y0) ∧ ((leV (.c (.hs .no tyNote a)) (.c (.hs .no tyNote a)) ∧ leV (.c (.int .i64 (szT (left - ((List.length a : Nat) : Int) - ((bulkL (List.take y0 a) : Nat) : Int)) (bulk (nth_Note a (Int.toNat ((y0 : Nat) : Int))))))) (.c (.int .i64 (left - ((List.length a : Nat) : Int) - ((bulkL (List.take y0' a) : Nat) : Int)))) ∧ leV (.tp []) (.tp []) ∧ leV (.tp []) (.tp []) ∧ True ∧ leV (.c (.int .i64 (IntKind.wrap .i64 (((y0 : Nat) : Int) + 1)))) (.c (.int .i64 ((y0' : Nat) : Int))) ∧ leV (.c (.int .i64 left)) (.c (.int .i64 left)) ∧ leV (.c (.hs .no tyNote a)) (.c (.hs .no tyNote a)) ∧ leV (.c (.int .i64 ((List.length a : Nat) : Int))) (.c (.int .i64 ((List.length a : Nat) : Int))) ∧ leV (.c (.int .i64 (IntKind.wrap .i64 (left - ((List.length a : Nat) : Int))))) (.c (.int .i64 (IntKind.wrap .i64 (left - ((List.length a : Nat) : Int))))) ∧ leV (.c (.int .i64 (IntKind.wrap .i64 (left - ((List.length a : Nat) : Int))))) (.c (.int .i64 (IntKind.wrap .i64 (left - ((List.length a : Nat) : Int))))) ∧ leV (.c (.bool false)) (.c (.bool false)) ∧ True ∧ True ∧ True ∧ True ∧ True ∧ True ∧ True ∧ True ∧ True ∧ True ∧ True ∧ True ∧ True ∧ True ∧ leV (.tp []) (.tp []) ∧ True) ∧ (True) ∧ true = true))))))))) else (T2 ((true = true ∧ leC (.int .i64 (left - ((List.length a : Nat) : Int) - ((bulkL (List.take y0 a) : Nat) : Int))) (.int .i64 (szT left (bulk a)))) ∧ true = true))))))))) (by kernel_rfl) ?_
  unfold T2 T3 T4 T8
  obtain ⟨hp0, hp1⟩ := hpre
  have hm : a.length ≤ maxLen := hwf.1.1
  have H0 := szT_cases left (bulk a)
  have hb : bulk a = a.length + bulkL a := rfl
  have w0 := wrapD (left - ((List.length a : Nat) : Int))
  unfold maxLen at hm
  have z0 : bulkL (List.take 0 a) = 0 := rfl
  have z1 : bulkL (List.take a.length a) = bulkL a := by rw [List.take_length]
  simp only [SIA, eq_self]
  refine ⟨fun h => by omega, fun h => ⟨⟨0, ⟨Nat.zero_le _, by omega⟩, ?_⟩, fun k hk => ⟨fun hlt => ?_, fun hge => ?_⟩⟩⟩
  · first | (refine ⟨?_, ?_⟩ <;> omega) | omega
  · have hlt : k < a.length := by omega
    have hk := nth_getElem? (t := tyNote) hlt
    have s1 : bulkL (List.take (k + 1) a) = bulkL (List.take k a) + bulk (nth_Note a k) := bulkL_snoc hk
    have s2 : bulkL (List.take (k + 1) a) ≤ bulkL a := bulkL_le a (k + 1)
    have k1 := wrapN (k := k) (by unfold maxLen; omega)
    have w1 := szT_cases (left - ((List.length a : Nat) : Int) - ((bulkL (List.take k a) : Nat) : Int)) (bulk (nth_Note a k))
    (try unfold maxLen at *)
    repeat' (first | apply And.intro | intro _)
    all_goals (first | trivial | omega | (refine ⟨k + 1, ⟨by omega, by omega⟩, by omega, ?_⟩; first | (refine ⟨?_, ?_⟩ <;> omega) | omega))
  · obtain rfl : k = a.length := by omega
    omega
def e_l_szNoteS : Entry Tryz.prog := ⟨132, [.v (.list tyNote), .v tyInt], fun x => szP x.2.1, fun x => .c (.int .i64 (szT x.2.1 (bulk x.1))), fun _ => [], fun x hx => b_l_szNoteS x.1 x.2.1 hx, Tryz.call132⟩
set_option maxRecDepth 100000 in
set_option maxHeartbeats 2000000 in
theorem b_l_szQueue (a : GQueue) (left : Int) (hpre : szP left) : BCalls Tryz.prog 59 [.ag [.hs .no tyNote a.1, .bool a.2.1, .bool a.2.2], .c (.int .i64 left)] (.c (.int .i64 (szT left (bulk a)))) [] := by
  refine bcalls_of (T := ⟨[e_l_szNoteS], [], [], [], none, fun _ => [], 0, [], []⟩) (L := L0) Tryz.func59 ⟨⟨rfl, rfl⟩, rfl⟩ (fun hwf => ?_)
  refine Eq.mpr (β := (True ∧ (True ∧ (True ∧ (True ∧ (True ∧ ((szP left ∧ true = true) ∧ (True ∧ (True ∧ (True ∧ (bif (ltI (szT left (bulk a.1)) 0) then (True ∧ ((true = true ∧ leC (.int .i64 (-1)) (.int .i64 (szT left (bulk a)))) ∧ true = true)) else (True ∧ (True ∧ ((true = true ∧ leC (.int .i64 (szT left (bulk a.1))) (.int .i64 (szT left (bulk a)))) ∧ true = true)))))))))))))) (by kernel_rfl) ?_
  obtain ⟨hp0, hp1⟩ := hpre
  have H0 := szT_cases left (bulk a)
  have hb : bulk a = bulk a.1 := by
    have e : bulk a = bulk a.1 + (0 + (0)) := rfl
    omega
  have w0 := szT_cases left (bulk a.1)
  try unfold maxLen at *
  simp only [SIA, eq_self]
  repeat' (first | apply And.intro | intro _)
  all_goals (first | trivial | omega)
def e_l_szQueue : Entry Tryz.prog := ⟨59, [.s tyQueue, .v tyInt], fun x => szP x.2.1, fun x => .c (.int .i64 (szT x.2.1 (bulk x.1))), fun _ => [], fun x hx => b_l_szQueue x.1 x.2.1 hx, Tryz.call59⟩
set_option maxRecDepth 100000 in
set_option maxHeartbeats 2000000 in
theorem b_l_szOut (a : GOut) (left : Int) (hpre : szP left) : BCalls Tryz.prog 61 [.ag [.str a.1, .str a.2], .c (.int .i64 left)] (.c (.int .i64 (szT left (bulk a)))) [] := by
  refine bcalls_of (T := ⟨[], [], [], [], none, fun _ => [], 0, [], []⟩) (L := L0) Tryz.func61 ⟨⟨rfl, rfl⟩, rfl⟩ (fun hwf => ?_)
  refine Eq.mpr (β := (T10 (bif (ltI (IntKind.wrap .i64 (left - ((ByteArray.size a.1 : Nat) : Int))) 0) then (True ∧ ((true = true ∧ leC (.int .i64 (-1)) (.int .i64 (szT left (bulk a)))) ∧ true = true)) else (T8 (bif (ltI (IntKind.wrap .i64 ((IntKind.wrap .i64 (left - ((ByteArray.size a.1 : Nat) : Int))) - ((ByteArray.size a.2 : Nat) : Int))) 0) then (True ∧ ((true = true ∧ leC (.int .i64 (-1)) (.int .i64 (szT left (bulk a)))) ∧ true = true)) else (T2 ((true = true ∧ leC (.int .i64 (IntKind.wrap .i64 ((IntKind.wrap .i64 (left - ((ByteArray.size a.1 : Nat) : Int))) - ((ByteArray.size a.2 : Nat) : Int)))) (.int .i64 (szT left (bulk a)))) ∧ true = true))))))) (by kernel_rfl) ?_
  unfold T10 T2 T8
  obtain ⟨hp0, hp1⟩ := hpre
  have H0 := szT_cases left (bulk a)
  have hb : bulk a = ByteArray.size a.1 + ByteArray.size a.2 := by
    have e : bulk a = ByteArray.size a.1 + (ByteArray.size a.2) := rfl
    omega
  have m0 : ByteArray.size a.1 ≤ maxLen := hwf.1.1
  have m1 : ByteArray.size a.2 ≤ maxLen := hwf.1.2.1
  have w0 := wrapD (left - ((ByteArray.size a.1 : Nat) : Int))
  have w1 := wrapD ((IntKind.wrap .i64 (left - ((ByteArray.size a.1 : Nat) : Int))) - ((ByteArray.size a.2 : Nat) : Int))
  try unfold maxLen at *
  simp only [SIA, eq_self]
  repeat' (first | apply And.intro | intro _)
  all_goals (first | trivial | omega)
def e_l_szOut : Entry Tryz.prog := ⟨61, [.s tyOut, .v tyInt], fun x => szP x.2.1, fun x => .c (.int .i64 (szT x.2.1 (bulk x.1))), fun _ => [], fun x hx => b_l_szOut x.1 x.2.1 hx, Tryz.call61⟩
set_option maxRecDepth 100000 in
set_option maxHeartbeats 2000000 in
theorem b_l_szIn (a : GIn) (left : Int) (hpre : szP left) : BCalls Tryz.prog 60 [.ag [.str a.1, .bool a.2], .c (.int .i64 left)] (.c (.int .i64 (szT left (bulk a)))) [] := by
  refine bcalls_of (T := ⟨[], [], [], [], none, fun _ => [], 0, [], []⟩) (L := L0) Tryz.func60 ⟨⟨rfl, rfl⟩, rfl⟩ (fun hwf => ?_)
  refine Eq.mpr (β := (True ∧ (True ∧ (True ∧ (True ∧ (True ∧ (True ∧ (True ∧ (True ∧ (True ∧ (True ∧ (bif (ltI (IntKind.wrap .i64 (left - ((ByteArray.size a.1 : Nat) : Int))) 0) then (True ∧ ((true = true ∧ leC (.int .i64 (-1)) (.int .i64 (szT left (bulk a)))) ∧ true = true)) else (True ∧ (True ∧ ((true = true ∧ leC (.int .i64 (IntKind.wrap .i64 (left - ((ByteArray.size a.1 : Nat) : Int)))) (.int .i64 (szT left (bulk a)))) ∧ true = true))))))))))))))) (by kernel_rfl) ?_
  obtain ⟨hp0, hp1⟩ := hpre
  have H0 := szT_cases left (bulk a)
  have hb : bulk a = ByteArray.size a.1 := by
    have e : bulk a = ByteArray.size a.1 + (0) := rfl
    omega
  have m0 : ByteArray.size a.1 ≤ maxLen := hwf.1.1
  have w0 := wrapD (left - ((ByteArray.size a.1 : Nat) : Int))
  try unfold maxLen at *
  simp only [SIA, eq_self]
  repeat' (first | apply And.intro | intro _)
  all_goals (first | trivial | omega)
def e_l_szIn : Entry Tryz.prog := ⟨60, [.s tyIn, .v tyInt], fun x => szP x.2.1, fun x => .c (.int .i64 (szT x.2.1 (bulk x.1))), fun _ => [], fun x hx => b_l_szIn x.1 x.2.1 hx, Tryz.call60⟩
def k0yrl8k (left : Int) (a : GSession) : Prop := (True ∧ ((true = true ∧ leC (.int .i64 (-1)) (.int .i64 (szT left (bulk a)))) ∧ true = true))
set_option maxRecDepth 100000 in
set_option maxHeartbeats 2000000 in
theorem b_l_szSession (a : GSession) (left : Int) (hpre : szP left) : BCalls Tryz.prog 17 [.ag (cellsOf tySession a), .c (.int .i64 left)] (.c (.int .i64 (szT left (bulk a)))) [] := by
  refine bcalls_of (T := ⟨[e_l_szView, e_l_szFilter, e_l_szQueue, e_l_szIn, e_l_szOut], [], [], [], none, fun _ => [], 0, [], []⟩) (L := L0) Tryz.func17 ⟨⟨rfl, rfl⟩, rfl⟩ (fun hwf => ?_)
  refine Eq.mpr (β := (T5 ((szP left ∧ true = true) ∧ (T3 (bif (ltI (szT left (bulk a.2.2.2.2.1)) 0) then (k0yrl8k left a) else (T3 ((szP (szT left (bulk a.2.2.2.2.1)) ∧ true = true) ∧ (T3 (bif (ltI (szT (szT left (bulk a.2.2.2.2.1)) (bulk a.2.2.2.2.2.1)) 0) then (k0yrl8k left a) else (T8 (bif (ltI (IntKind.wrap .i64 (szT (szT left (bulk a.2.2.2.2.1)) (bulk a.2.2.2.2.2.1) - ((ByteArray.size a.2.2.2.2.2.2.1 : Nat) : Int))) 0) then (k0yrl8k left a) else (T8 (bif (ltI (IntKind.wrap .i64 ((IntKind.wrap .i64 (szT (szT left (bulk a.2.2.2.2.1)) (bulk a.2.2.2.2.2.1) - ((ByteArray.size a.2.2.2.2.2.2.1 : Nat) : Int))) - ((ByteArray.size a.2.2.2.2.2.2.2.1 : Nat) : Int))) 0) then (k0yrl8k left a) else (T3 ((szP (IntKind.wrap .i64 ((IntKind.wrap .i64 (szT (szT left (bulk a.2.2.2.2.1)) (bulk a.2.2.2.2.2.1) - ((ByteArray.size a.2.2.2.2.2.2.1 : Nat) : Int))) - ((ByteArray.size a.2.2.2.2.2.2.2.1 : Nat) : Int))) ∧ true = true) ∧ (T3 (bif (ltI (szT (IntKind.wrap .i64 ((IntKind.wrap .i64 (szT (szT left (bulk a.2.2.2.2.1)) (bulk a.2.2.2.2.2.1) - ((ByteArray.size a.2.2.2.2.2.2.1 : Nat) : Int))) - ((ByteArray.size a.2.2.2.2.2.2.2.1 : Nat) : Int))) (bulk a.2.2.2.2.2.2.2.2.1)) 0) then (k0yrl8k left a) else (T3 ((szP (szT (IntKind.wrap .i64 ((IntKind.wrap .i64 (szT (szT left (bulk a.2.2.2.2.1)) (bulk a.2.2.2.2.2.1) - ((ByteArray.size a.2.2.2.2.2.2.1 : Nat) : Int))) - ((ByteArray.size a.2.2.2.2.2.2.2.1 : Nat) : Int))) (bulk a.2.2.2.2.2.2.2.2.1)) ∧ true = true) ∧ (T3 (bif (ltI (szT (szT (IntKind.wrap .i64 ((IntKind.wrap .i64 (szT (szT left (bulk a.2.2.2.2.1)) (bulk a.2.2.2.2.2.1) - ((ByteArray.size a.2.2.2.2.2.2.1 : Nat) : Int))) - ((ByteArray.size a.2.2.2.2.2.2.2.1 : Nat) : Int))) (bulk a.2.2.2.2.2.2.2.2.1)) (bulk a.2.2.2.2.2.2.2.2.2.1)) 0) then (k0yrl8k left a) else (T3 ((szP (szT (szT (IntKind.wrap .i64 ((IntKind.wrap .i64 (szT (szT left (bulk a.2.2.2.2.1)) (bulk a.2.2.2.2.2.1) - ((ByteArray.size a.2.2.2.2.2.2.1 : Nat) : Int))) - ((ByteArray.size a.2.2.2.2.2.2.2.1 : Nat) : Int))) (bulk a.2.2.2.2.2.2.2.2.1)) (bulk a.2.2.2.2.2.2.2.2.2.1)) ∧ true = true) ∧ (T3 (bif (ltI (szT (szT (szT (IntKind.wrap .i64 ((IntKind.wrap .i64 (szT (szT left (bulk a.2.2.2.2.1)) (bulk a.2.2.2.2.2.1) - ((ByteArray.size a.2.2.2.2.2.2.1 : Nat) : Int))) - ((ByteArray.size a.2.2.2.2.2.2.2.1 : Nat) : Int))) (bulk a.2.2.2.2.2.2.2.2.1)) (bulk a.2.2.2.2.2.2.2.2.2.1)) (bulk a.2.2.2.2.2.2.2.2.2.2.1)) 0) then (k0yrl8k left a) else (T2 ((true = true ∧ leC (.int .i64 (szT (szT (szT (IntKind.wrap .i64 ((IntKind.wrap .i64 (szT (szT left (bulk a.2.2.2.2.1)) (bulk a.2.2.2.2.2.1) - ((ByteArray.size a.2.2.2.2.2.2.1 : Nat) : Int))) - ((ByteArray.size a.2.2.2.2.2.2.2.1 : Nat) : Int))) (bulk a.2.2.2.2.2.2.2.2.1)) (bulk a.2.2.2.2.2.2.2.2.2.1)) (bulk a.2.2.2.2.2.2.2.2.2.2.1))) (.int .i64 (szT left (bulk a)))) ∧ true = true))))))))))))))))))))))))))) (by kernel_rfl) ?_
  unfold k0yrl8k T2 T3 T5 T8
  obtain ⟨hp0, hp1⟩ := hpre
  have H0 := szT_cases left (bulk a)
  have hb : bulk a = bulk a.2.2.2.2.1 + bulk a.2.2.2.2.2.1 + ByteArray.size a.2.2.2.2.2.2.1 + ByteArray.size a.2.2.2.2.2.2.2.1 + bulk a.2.2.2.2.2.2.2.2.1 + bulk a.2.2.2.2.2.2.2.2.2.1 + bulk a.2.2.2.2.2.2.2.2.2.2.1 := by
    have e : bulk a = 0 + (0 + (0 + (0 + (bulk a.2.2.2.2.1 + (bulk a.2.2.2.2.2.1 + (ByteArray.size a.2.2.2.2.2.2.1 + (ByteArray.size a.2.2.2.2.2.2.2.1 + (bulk a.2.2.2.2.2.2.2.2.1 + (bulk a.2.2.2.2.2.2.2.2.2.1 + (bulk a.2.2.2.2.2.2.2.2.2.2.1 + (0))))))))))) := rfl
    omega
  have m6 : ByteArray.size a.2.2.2.2.2.2.1 ≤ maxLen := hwf.1.2.2.2.2.2.2.2.1
  have m7 : ByteArray.size a.2.2.2.2.2.2.2.1 ≤ maxLen := hwf.1.2.2.2.2.2.2.2.2.1
  have w4 := szT_cases left (bulk a.2.2.2.2.1)
  have w5 := szT_cases (szT left (bulk a.2.2.2.2.1)) (bulk a.2.2.2.2.2.1)
  have w6 := wrapD ((szT (szT left (bulk a.2.2.2.2.1)) (bulk a.2.2.2.2.2.1)) - ((ByteArray.size a.2.2.2.2.2.2.1 : Nat) : Int))
  have w7 := wrapD ((IntKind.wrap .i64 ((szT (szT left (bulk a.2.2.2.2.1)) (bulk a.2.2.2.2.2.1)) - ((ByteArray.size a.2.2.2.2.2.2.1 : Nat) : Int))) - ((ByteArray.size a.2.2.2.2.2.2.2.1 : Nat) : Int))
  have w8 := szT_cases (IntKind.wrap .i64 ((IntKind.wrap .i64 ((szT (szT left (bulk a.2.2.2.2.1)) (bulk a.2.2.2.2.2.1)) - ((ByteArray.size a.2.2.2.2.2.2.1 : Nat) : Int))) - ((ByteArray.size a.2.2.2.2.2.2.2.1 : Nat) : Int))) (bulk a.2.2.2.2.2.2.2.2.1)
  have w9 := szT_cases (szT (IntKind.wrap .i64 ((IntKind.wrap .i64 ((szT (szT left (bulk a.2.2.2.2.1)) (bulk a.2.2.2.2.2.1)) - ((ByteArray.size a.2.2.2.2.2.2.1 : Nat) : Int))) - ((ByteArray.size a.2.2.2.2.2.2.2.1 : Nat) : Int))) (bulk a.2.2.2.2.2.2.2.2.1)) (bulk a.2.2.2.2.2.2.2.2.2.1)
  have w10 := szT_cases (szT (szT (IntKind.wrap .i64 ((IntKind.wrap .i64 ((szT (szT left (bulk a.2.2.2.2.1)) (bulk a.2.2.2.2.2.1)) - ((ByteArray.size a.2.2.2.2.2.2.1 : Nat) : Int))) - ((ByteArray.size a.2.2.2.2.2.2.2.1 : Nat) : Int))) (bulk a.2.2.2.2.2.2.2.2.1)) (bulk a.2.2.2.2.2.2.2.2.2.1)) (bulk a.2.2.2.2.2.2.2.2.2.2.1)
  try unfold maxLen at *
  simp only [SIA, eq_self]
  repeat' (first | apply And.intro | intro _)
  all_goals (first | trivial | omega)
def e_l_szSession : Entry Tryz.prog := ⟨17, [.s tySession, .v tyInt], fun x => szP x.2.1, fun x => .c (.int .i64 (szT x.2.1 (bulk x.1))), fun _ => [], fun x hx => b_l_szSession x.1 x.2.1 hx, Tryz.call17⟩
end Go.Proofs.YtigebfhekmjhmaaGreat
