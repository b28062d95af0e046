/-
  The laws' functions szX.
  No condition but what the arguments' cells hold. Printed by vcgen.py.
-/
import Derived.Test.YtdfanfpembebmaaGreatDoorALawA
set_option linter.unusedSimpArgs false
set_option linter.unusedVariables false
set_option maxRecDepth 100000
set_option maxHeartbeats 4000000
namespace Go.Proofs.YtdfanfpembebmaaGreatDoor
open Go.ChangeShapes Go.WideShapes Go.ChangeAt Go.RowKit Go.Joins Go.Deep
open GoRep (rep bulk)

def L_l_szStringS (a : List ByteArray) (left : Int) : Nat → List AV → Mem → LoopA
  | 5, tm, M => ⟨Nat, fun y => (anyR (setA tm [(1, .c (.int .i64 (left - ((List.length a : Nat) : Int) - ((bulkL (List.take y a) : Nat) : Int)))), (4, .any), (5, .c (.int .i64 ((y : Nat) : Int)))]) 12 15, M), fun y => (y ≤ List.length a ∧ ((List.length a : Nat) : Int) + ((bulkL (List.take y a) : Nat) : Int) ≤ left), fun y => (List.length a - y)⟩
  | _, _, _ => ⟨Unit, fun _ => ([], []), fun _ => False, fun _ => 0⟩
theorem b_l_szStringS (a : List ByteArray) (left : Int) (hpre : szP left) : BCalls Tryz.prog 101 [.c (.hs .no tyStr a), .c (.int .i64 left)] (.c (.int .i64 (szT left (bulk a)))) [] := by
  refine bc0 [] [] [] [] (L_l_szStringS a left) Tryz.func101 (fun hwf => ?_)
  refine Eq.mpr (β := (T8 (bif (ltI (IntKind.wrap .i64 (left - ((List.length a : Nat) : Int))) 0) then (True ∧ (rI (-1) (szT left (bulk a)))) else (True ∧ ((∃ q : Nat, (q ≤ List.length a ∧ ((List.length a : Nat) : Int) + ((bulkL (List.take q a) : Nat) : Int) ≤ left) ∧ ((lxs [.c (.hs .no tyStr a)] (leV (.c (.int .i64 (IntKind.wrap .i64 (left - ((List.length a : Nat) : Int))))) (.c (.int .i64 (left - ((List.length a : Nat) : Int) - ((bulkL (List.take q a) : Nat) : Int)))) ∧ lxs [.tp [], .tp []] (True ∧ leV (.c (.int .i64 0)) (.c (.int .i64 ((q : Nat) : Int))) ∧ lxs [.c (.int .i64 left), .c (.hs .no tyStr a), .c (.int .i64 ((List.length a : Nat) : Int)), .c (.int .i64 (IntKind.wrap .i64 (left - ((List.length a : Nat) : Int)))), .c (.int .i64 (IntKind.wrap .i64 (left - ((List.length a : Nat) : Int)))), .c (.bool false)] (TN 15 (lxs [.tp []] True))))) ∧ (True) ∧ true = true)) ∧ ∀ y0 : Nat, (y0 ≤ List.length a ∧ ((List.length a : Nat) : Int) + ((bulkL (List.take y0 a) : Nat) : Int) ≤ left) → (T4 (bif (ltI ((y0 : Nat) : Int) ((List.length a : Nat) : Int)) then (T3 (((1 : Nat) = 1 ∧ (0 : Int) ≤ ((y0 : Nat) : Int) ∧ (((y0 : Nat) : Int) : Int) < ((List.length a : Nat) : Int)) ∧ (T6 (bif (ltI (IntKind.wrap .i64 ((left - ((List.length a : Nat) : Int) - ((bulkL (List.take y0 a) : Nat) : Int)) - ((ByteArray.size (nth_String a (Int.toNat ((y0 : Nat) : Int))) : Nat) : Int))) 0) then (True ∧ (rI (-1) (szT left (bulk a)))) else (T3 (∃ y0' : Nat, (y0' ≤ List.length a ∧ ((List.length a : Nat) : Int) + ((bulkL (List.take y0' a) : Nat) : Int) ≤ left) ∧ (List.length a - y0') < (List.length a - y0) ∧ ((lxs [.c (.hs .no tyStr a)] (leV (.c (.int .i64 (IntKind.wrap .i64 ((left - ((List.length a : Nat) : Int) - ((bulkL (List.take y0 a) : Nat) : Int)) - ((ByteArray.size (nth_String a (Int.toNat ((y0 : Nat) : Int))) : Nat) : Int))))) (.c (.int .i64 (left - ((List.length a : Nat) : Int) - ((bulkL (List.take y0' a) : Nat) : Int)))) ∧ lxs [.tp [], .tp []] (True ∧ leV (.c (.int .i64 (IntKind.wrap .i64 (((y0 : Nat) : Int) + 1)))) (.c (.int .i64 ((y0' : Nat) : Int))) ∧ lxs [.c (.int .i64 left), .c (.hs .no tyStr a), .c (.int .i64 ((List.length a : Nat) : Int)), .c (.int .i64 (IntKind.wrap .i64 (left - ((List.length a : Nat) : Int)))), .c (.int .i64 (IntKind.wrap .i64 (left - ((List.length a : Nat) : Int)))), .c (.bool false)] (TN 15 (lxs [.tp []] True))))) ∧ (True) ∧ true = true))))))) else (T2 (rI (left - ((List.length a : Nat) : Int) - ((bulkL (List.take y0 a) : Nat) : Int)) (szT left (bulk a))))))))))) (by kernel_rfl) ?_
  unfold T2 T3 T4 T6 T8
  obtain ⟨hp0, hp1⟩ := hpre
  have hm : a.length ≤ maxLen := hwf.1.1
  have H0 := szT_cases left (bulk a)
  have hb : bulk a = a.length + bulkL a := rfl
  have w0 := wrapD (left - ((List.length a : Nat) : Int))
  unfold maxLen at hm
  have z0 : bulkL (List.take 0 a) = 0 := rfl
  have z1 : bulkL (List.take a.length a) = bulkL a := by rw [List.take_length]
  simp only [SIA, eq_self]
  refine ⟨fun h => by omega, fun h => ⟨⟨0, ⟨Nat.zero_le _, by omega⟩, ?_⟩, fun k hk => ⟨fun hlt => ?_, fun hge => ?_⟩⟩⟩
  · first | (refine ⟨?_, ?_⟩ <;> omega) | omega
  · have hlt : k < a.length := by omega
    have hk := nth_getElem? (t := tyStr) hlt
    have s1 : bulkL (List.take (k + 1) a) = bulkL (List.take k a) + bulk (nth_String a k) := bulkL_snoc hk
    have s2 : bulkL (List.take (k + 1) a) ≤ bulkL a := bulkL_le a (k + 1)
    have k1 := wrapN (k := k) (by unfold maxLen; omega)
    have hs : (nth_String a k).size ≤ maxLen := allL_nth (t := tyStr) hwf.1.2 hlt
    have w1 := wrapD ((left - ((List.length a : Nat) : Int) - ((bulkL (List.take k a) : Nat) : Int)) - ((ByteArray.size (nth_String a k) : Nat) : Int))
    have hbk : bulk (nth_String a k) = (nth_String a k).size := rfl
    (try unfold maxLen at *)
    repeat' (first | apply And.intro | intro _)
    all_goals (first | trivial | omega | (refine ⟨k + 1, ⟨by omega, by omega⟩, by omega, ?_⟩; first | (refine ⟨?_, ?_⟩ <;> omega) | omega))
  · obtain rfl : k = a.length := by omega
    omega
def e_l_szStringS : Entry Tryz.prog := ⟨101, [.v (.list tyStr), .v tyInt], fun x => szP x.2.1, fun x => .c (.int .i64 (szT x.2.1 (bulk x.1))), fun _ => [], fun x hx => b_l_szStringS x.1 x.2.1 hx, Tryz.call101⟩
theorem b_l_szScope (a : GScope) (left : Int) (hpre : szP left) : BCalls Tryz.prog 73 [.ag [.int .i64 a.1, .hs .no tyStr a.2.1, .int .i64 a.2.2], .c (.int .i64 left)] (.c (.int .i64 (szT left (bulk a)))) [] := by
  refine bc0 [e_l_szStringS] [] [] [] L0 Tryz.func73 (fun hwf => ?_)
  refine Eq.mpr (β := (True ∧ (True ∧ (True ∧ (True ∧ (True ∧ ((szP left ∧ true = true) ∧ (True ∧ (True ∧ (True ∧ (bif (ltI (szT left (bulk a.2.1)) 0) then (True ∧ (rI (-1) (szT left (bulk a)))) else (True ∧ (True ∧ (rI (szT left (bulk a.2.1)) (szT left (bulk a)))))))))))))))) (by kernel_rfl) ?_
  obtain ⟨hp0, hp1⟩ := hpre
  have H0 := szT_cases left (bulk a)
  have hb : bulk a = bulk a.2.1 := by
    have e : bulk a = 0 + (bulk a.2.1 + (0)) := rfl
    omega
  have w1 := szT_cases left (bulk a.2.1)
  try unfold maxLen at *
  simp only [SIA, eq_self]
  repeat' (first | apply And.intro | intro _)
  all_goals (first | trivial | omega)
def e_l_szScope : Entry Tryz.prog := ⟨73, [.s tyScope, .v tyInt], fun x => szP x.2.1, fun x => .c (.int .i64 (szT x.2.1 (bulk x.1))), fun _ => [], fun x hx => b_l_szScope x.1 x.2.1 hx, Tryz.call73⟩
def L_l_szScopeS (a : List GScope) (left : Int) : Nat → List AV → Mem → LoopA
  | 5, tm, M => ⟨Nat, fun y => (anyR (setA tm [(1, .c (.int .i64 (left - ((List.length a : Nat) : Int) - ((bulkL (List.take y a) : Nat) : Int)))), (4, .any), (5, .c (.int .i64 ((y : Nat) : Int)))]) 12 14, M), fun y => (y ≤ List.length a ∧ ((List.length a : Nat) : Int) + ((bulkL (List.take y a) : Nat) : Int) ≤ left), fun y => (List.length a - y)⟩
  | _, _, _ => ⟨Unit, fun _ => ([], []), fun _ => False, fun _ => 0⟩
theorem b_l_szScopeS (a : List GScope) (left : Int) (hpre : szP left) : BCalls Tryz.prog 49 [.c (.hs .no tyScope a), .c (.int .i64 left)] (.c (.int .i64 (szT left (bulk a)))) [] := by
  refine bc0 [e_l_szScope] [] [] [] (L_l_szScopeS a left) Tryz.func49 (fun hwf => ?_)
  refine Eq.mpr (β := (T8 (bif (ltI (IntKind.wrap .i64 (left - ((List.length a : Nat) : Int))) 0) then (True ∧ (rI (-1) (szT left (bulk a)))) else (True ∧ ((∃ q : Nat, (q ≤ List.length a ∧ ((List.length a : Nat) : Int) + ((bulkL (List.take q a) : Nat) : Int) ≤ left) ∧ ((lxs [.c (.hs .no tyScope a)] (leV (.c (.int .i64 (IntKind.wrap .i64 (left - ((List.length a : Nat) : Int))))) (.c (.int .i64 (left - ((List.length a : Nat) : Int) - ((bulkL (List.take q a) : Nat) : Int)))) ∧ lxs [.tp [], .tp []] (True ∧ leV (.c (.int .i64 0)) (.c (.int .i64 ((q : Nat) : Int))) ∧ lxs [.c (.int .i64 left), .c (.hs .no tyScope a), .c (.int .i64 ((List.length a : Nat) : Int)), .c (.int .i64 (IntKind.wrap .i64 (left - ((List.length a : Nat) : Int)))), .c (.int .i64 (IntKind.wrap .i64 (left - ((List.length a : Nat) : Int)))), .c (.bool false)] (TN 14 (lxs [.tp []] True))))) ∧ (True) ∧ true = true)) ∧ ∀ y0 : Nat, (y0 ≤ List.length a ∧ ((List.length a : Nat) : Int) + ((bulkL (List.take y0 a) : Nat) : Int) ≤ left) → (T4 (bif (ltI ((y0 : Nat) : Int) ((List.length a : Nat) : Int)) then (T2 (((3 : Nat) = 3 ∧ (0 : Int) ≤ ((y0 : Nat) : Int) ∧ (((y0 : Nat) : Int) : Int) < ((List.length a : Nat) : Int)) ∧ (T2 ((szP (left - ((List.length a : Nat) : Int) - ((bulkL (List.take y0 a) : Nat) : Int)) ∧ true = true) ∧ (T3 (bif (ltI (szT (left - ((List.length a : Nat) : Int) - ((bulkL (List.take y0 a) : Nat) : Int)) (bulk (nth_Scope a (Int.toNat ((y0 : Nat) : Int))))) 0) then (True ∧ (rI (-1) (szT left (bulk a)))) else (T3 (∃ y0' : Nat, (y0' ≤ List.length a ∧ ((List.length a : Nat) : Int) + ((bulkL (List.take y0' a) : Nat) : Int) ≤ left) ∧ (List.length a - y0') < (List.length a - y0) ∧ ((lxs [.c (.hs .no tyScope a)] (leV (.c (.int .i64 (szT (left - ((List.length a : Nat) : Int) - ((bulkL (List.take y0 a) : Nat) : Int)) (bulk (nth_Scope a (Int.toNat ((y0 : Nat) : Int))))))) (.c (.int .i64 (left - ((List.length a : Nat) : Int) - ((bulkL (List.take y0' a) : Nat) : Int)))) ∧ lxs [.tp [], .tp []] (True ∧ leV (.c (.int .i64 (IntKind.wrap .i64 (((y0 : Nat) : Int) + 1)))) (.c (.int .i64 ((y0' : Nat) : Int))) ∧ lxs [.c (.int .i64 left), .c (.hs .no tyScope a), .c (.int .i64 ((List.length a : Nat) : Int)), .c (.int .i64 (IntKind.wrap .i64 (left - ((List.length a : Nat) : Int)))), .c (.int .i64 (IntKind.wrap .i64 (left - ((List.length a : Nat) : Int)))), .c (.bool false)] (TN 14 (lxs [.tp []] True))))) ∧ (True) ∧ true = true))))))))) else (T2 (rI (left - ((List.length a : Nat) : Int) - ((bulkL (List.take y0 a) : Nat) : Int)) (szT left (bulk a))))))))))) (by kernel_rfl) ?_
  unfold T2 T3 T4 T8
  obtain ⟨hp0, hp1⟩ := hpre
  have hm : a.length ≤ maxLen := hwf.1.1
  have H0 := szT_cases left (bulk a)
  have hb : bulk a = a.length + bulkL a := rfl
  have w0 := wrapD (left - ((List.length a : Nat) : Int))
  unfold maxLen at hm
  have z0 : bulkL (List.take 0 a) = 0 := rfl
  have z1 : bulkL (List.take a.length a) = bulkL a := by rw [List.take_length]
  simp only [SIA, eq_self]
  refine ⟨fun h => by omega, fun h => ⟨⟨0, ⟨Nat.zero_le _, by omega⟩, ?_⟩, fun k hk => ⟨fun hlt => ?_, fun hge => ?_⟩⟩⟩
  · first | (refine ⟨?_, ?_⟩ <;> omega) | omega
  · have hlt : k < a.length := by omega
    have hk := nth_getElem? (t := tyScope) hlt
    have s1 : bulkL (List.take (k + 1) a) = bulkL (List.take k a) + bulk (nth_Scope a k) := bulkL_snoc hk
    have s2 : bulkL (List.take (k + 1) a) ≤ bulkL a := bulkL_le a (k + 1)
    have k1 := wrapN (k := k) (by unfold maxLen; omega)
    have w1 := szT_cases (left - ((List.length a : Nat) : Int) - ((bulkL (List.take k a) : Nat) : Int)) (bulk (nth_Scope a k))
    (try unfold maxLen at *)
    repeat' (first | apply And.intro | intro _)
    all_goals (first | trivial | omega | (refine ⟨k + 1, ⟨by omega, by omega⟩, by omega, ?_⟩; first | (refine ⟨?_, ?_⟩ <;> omega) | omega))
  · obtain rfl : k = a.length := by omega
    omega
def e_l_szScopeS : Entry Tryz.prog := ⟨49, [.v (.list tyScope), .v tyInt], fun x => szP x.2.1, fun x => .c (.int .i64 (szT x.2.1 (bulk x.1))), fun _ => [], fun x hx => b_l_szScopeS x.1 x.2.1 hx, Tryz.call49⟩
theorem b_l_szFilter (a : GFilter) (left : Int) (hpre : szP left) : BCalls Tryz.prog 20 [.ag [.bool a.1, .hs .no tyScope a.2], .c (.int .i64 left)] (.c (.int .i64 (szT left (bulk a)))) [] := by
  refine bc0 [e_l_szScopeS] [] [] [] L0 Tryz.func20 (fun hwf => ?_)
  refine Eq.mpr (β := (True ∧ (True ∧ (True ∧ (True ∧ (True ∧ ((szP left ∧ true = true) ∧ (True ∧ (True ∧ (True ∧ (bif (ltI (szT left (bulk a.2)) 0) then (True ∧ (rI (-1) (szT left (bulk a)))) else (True ∧ (True ∧ (rI (szT left (bulk a.2)) (szT left (bulk a)))))))))))))))) (by kernel_rfl) ?_
  obtain ⟨hp0, hp1⟩ := hpre
  have H0 := szT_cases left (bulk a)
  have hb : bulk a = bulk a.2 := by
    have e : bulk a = 0 + (bulk a.2) := rfl
    omega
  have w1 := szT_cases left (bulk a.2)
  try unfold maxLen at *
  simp only [SIA, eq_self]
  repeat' (first | apply And.intro | intro _)
  all_goals (first | trivial | omega)
def e_l_szFilter : Entry Tryz.prog := ⟨20, [.s tyFilter, .v tyInt], fun x => szP x.2.1, fun x => .c (.int .i64 (szT x.2.1 (bulk x.1))), fun _ => [], fun x hx => b_l_szFilter x.1 x.2.1 hx, Tryz.call20⟩
theorem b_l_szSeenS (a : List GSpan) (left : Int) (hpre : szP left) : BCalls Tryz.prog 48 [.c (.hs .no tySpan a), .c (.int .i64 left)] (.c (.int .i64 (szT left (bulk a)))) [] := by
  refine bc0 [] [] [] [] L0 Tryz.func48 (fun hwf => ?_)
  refine Eq.mpr (β := (True ∧ (True ∧ (True ∧ (True ∧ (True ∧ (True ∧ (True ∧ (True ∧ (bif (ltI (IntKind.wrap .i64 (left - ((List.length a : Nat) : Int))) 0) then (True ∧ (rI (-1) (szT left (bulk a)))) else (True ∧ (True ∧ (rI (IntKind.wrap .i64 (left - ((List.length a : Nat) : Int))) (szT left (bulk a))))))))))))))) (by kernel_rfl) ?_
  obtain ⟨hp0, hp1⟩ := hpre
  have hm : a.length ≤ maxLen := hwf.1.1
  have H0 := szT_cases left (bulk a)
  have hb : bulk a = a.length + bulkL a := rfl
  have w0 := wrapD (left - ((List.length a : Nat) : Int))
  unfold maxLen at hm
  have z1 : bulkL a = 0 := bulkL_flat (fun _ => rfl) a
  simp only [SIA, eq_self]
  repeat' (first | apply And.intro | intro _)
  all_goals (first | trivial | omega)
def e_l_szSeenS : Entry Tryz.prog := ⟨48, [.v (.list tySpan), .v tyInt], fun x => szP x.2.1, fun x => .c (.int .i64 (szT x.2.1 (bulk x.1))), fun _ => [], fun x hx => b_l_szSeenS x.1 x.2.1 hx, Tryz.call48⟩
theorem b_l_szView (a : List GSpan) (left : Int) (hpre : szP left) : BCalls Tryz.prog 19 [.ag [.hs .no tySpan a], .c (.int .i64 left)] (.c (.int .i64 (szT left (bulk a)))) [] := by
  refine bc0 [e_l_szSeenS] [] [] [] L0 Tryz.func19 (fun hwf => ?_)
  refine Eq.mpr (β := (True ∧ (True ∧ (True ∧ (True ∧ (True ∧ ((szP left ∧ true = true) ∧ (True ∧ (True ∧ (True ∧ (bif (ltI (szT left (bulk a)) 0) then (True ∧ (rI (-1) (szT left (bulk a)))) else (True ∧ (True ∧ (rI (szT left (bulk a)) (szT left (bulk a)))))))))))))))) (by kernel_rfl) ?_
  obtain ⟨hp0, hp1⟩ := hpre
  have H0 := szT_cases left (bulk a)
  have hb : bulk a = bulk a := by
    have e : bulk a = bulk a := rfl
    omega
  have w0 := szT_cases left (bulk a)
  try unfold maxLen at *
  simp only [SIA, eq_self]
  repeat' (first | apply And.intro | intro _)
  all_goals (first | trivial | omega)
def e_l_szView : Entry Tryz.prog := ⟨19, [.s (.list tySpan), .v tyInt], fun x => szP x.2.1, fun x => .c (.int .i64 (szT x.2.1 (bulk x.1))), fun _ => [], fun x hx => b_l_szView x.1 x.2.1 hx, Tryz.call19⟩
theorem b_l_szNote (a : GNote) (left : Int) (hpre : szP left) : BCalls Tryz.prog 74 [.ag (cellsOf tyNote a), .c (.int .i64 left)] (.c (.int .i64 (szT left (bulk a)))) [] := by
  refine bc0 [] [] [] [] L0 Tryz.func74 (fun hwf => ?_)
  refine Eq.mpr (β := (True ∧ (True ∧ (True ∧ (True ∧ (True ∧ (True ∧ (True ∧ (True ∧ (True ∧ (True ∧ (bif (ltI (IntKind.wrap .i64 (left - ((ByteArray.size a.2.2.2 : Nat) : Int))) 0) then (True ∧ (rI (-1) (szT left (bulk a)))) else (True ∧ (True ∧ (rI (IntKind.wrap .i64 (left - ((ByteArray.size a.2.2.2 : Nat) : Int))) (szT left (bulk a))))))))))))))))) (by kernel_rfl) ?_
  obtain ⟨hp0, hp1⟩ := hpre
  have H0 := szT_cases left (bulk a)
  have hb : bulk a = ByteArray.size a.2.2.2 := by
    have e : bulk a = 0 + (0 + (0 + (ByteArray.size a.2.2.2))) := rfl
    omega
  have m3 : ByteArray.size a.2.2.2 ≤ maxLen := hwf.1.2.2.2.1
  have w3 := wrapD (left - ((ByteArray.size a.2.2.2 : Nat) : Int))
  try unfold maxLen at *
  simp only [SIA, eq_self]
  repeat' (first | apply And.intro | intro _)
  all_goals (first | trivial | omega)
def e_l_szNote : Entry Tryz.prog := ⟨74, [.s tyNote, .v tyInt], fun x => szP x.2.1, fun x => .c (.int .i64 (szT x.2.1 (bulk x.1))), fun _ => [], fun x hx => b_l_szNote x.1 x.2.1 hx, Tryz.call74⟩
def L_l_szNoteS (a : List GNote) (left : Int) : Nat → List AV → Mem → LoopA
  | 5, tm, M => ⟨Nat, fun y => (anyR (setA tm [(1, .c (.int .i64 (left - ((List.length a : Nat) : Int) - ((bulkL (List.take y a) : Nat) : Int)))), (4, .any), (5, .c (.int .i64 ((y : Nat) : Int)))]) 12 14, M), fun y => (y ≤ List.length a ∧ ((List.length a : Nat) : Int) + ((bulkL (List.take y a) : Nat) : Int) ≤ left), fun y => (List.length a - y)⟩
  | _, _, _ => ⟨Unit, fun _ => ([], []), fun _ => False, fun _ => 0⟩
theorem b_l_szNoteS (a : List GNote) (left : Int) (hpre : szP left) : BCalls Tryz.prog 50 [.c (.hs .no tyNote a), .c (.int .i64 left)] (.c (.int .i64 (szT left (bulk a)))) [] := by
  refine bc0 [e_l_szNote] [] [] [] (L_l_szNoteS a left) Tryz.func50 (fun hwf => ?_)
  refine Eq.mpr (β := (T8 (bif (ltI (IntKind.wrap .i64 (left - ((List.length a : Nat) : Int))) 0) then (True ∧ (rI (-1) (szT left (bulk a)))) else (True ∧ ((∃ q : Nat, (q ≤ List.length a ∧ ((List.length a : Nat) : Int) + ((bulkL (List.take q a) : Nat) : Int) ≤ left) ∧ ((lxs [.c (.hs .no tyNote a)] (leV (.c (.int .i64 (IntKind.wrap .i64 (left - ((List.length a : Nat) : Int))))) (.c (.int .i64 (left - ((List.length a : Nat) : Int) - ((bulkL (List.take q a) : Nat) : Int)))) ∧ lxs [.tp [], .tp []] (True ∧ leV (.c (.int .i64 0)) (.c (.int .i64 ((q : Nat) : Int))) ∧ lxs [.c (.int .i64 left), .c (.hs .no tyNote a), .c (.int .i64 ((List.length a : Nat) : Int)), .c (.int .i64 (IntKind.wrap .i64 (left - ((List.length a : Nat) : Int)))), .c (.int .i64 (IntKind.wrap .i64 (left - ((List.length a : Nat) : Int)))), .c (.bool false)] (TN 14 (lxs [.tp []] True))))) ∧ (True) ∧ true = true)) ∧ ∀ y0 : Nat, (y0 ≤ List.length a ∧ ((List.length a : Nat) : Int) + ((bulkL (List.take y0 a) : Nat) : Int) ≤ left) → (T4 (bif (ltI ((y0 : Nat) : Int) ((List.length a : Nat) : Int)) then (T2 (((4 : Nat) = 4 ∧ (0 : Int) ≤ ((y0 : Nat) : Int) ∧ (((y0 : Nat) : Int) : Int) < ((List.length a : Nat) : Int)) ∧ (T2 ((szP (left - ((List.length a : Nat) : Int) - ((bulkL (List.take y0 a) : Nat) : Int)) ∧ true = true) ∧ (T3 (bif (ltI (szT (left - ((List.length a : Nat) : Int) - ((bulkL (List.take y0 a) : Nat) : Int)) (bulk (nth_Note a (Int.toNat ((y0 : Nat) : Int))))) 0) then (True ∧ (rI (-1) (szT left (bulk a)))) else (T3 (∃ y0' : Nat, (y0' ≤ List.length a ∧ ((List.length a : Nat) : Int) + ((bulkL (List.take y0' a) : Nat) : Int) ≤ left) ∧ (List.length a - y0') < (List.length a - y0) ∧ ((lxs [.c (.hs .no tyNote a)] (leV (.c (.int .i64 (szT (left - ((List.length a : Nat) : Int) - ((bulkL (List.take y0 a) : Nat) : Int)) (bulk (nth_Note a (Int.toNat ((y0 : Nat) : Int))))))) (.c (.int .i64 (left - ((List.length a : Nat) : Int) - ((bulkL (List.take y0' a) : Nat) : Int)))) ∧ lxs [.tp [], .tp []] (True ∧ leV (.c (.int .i64 (IntKind.wrap .i64 (((y0 : Nat) : Int) + 1)))) (.c (.int .i64 ((y0' : Nat) : Int))) ∧ lxs [.c (.int .i64 left), .c (.hs .no tyNote a), .c (.int .i64 ((List.length a : Nat) : Int)), .c (.int .i64 (IntKind.wrap .i64 (left - ((List.length a : Nat) : Int)))), .c (.int .i64 (IntKind.wrap .i64 (left - ((List.length a : Nat) : Int)))), .c (.bool false)] (TN 14 (lxs [.tp []] True))))) ∧ (True) ∧ true = true))))))))) else (T2 (rI (left - ((List.length a : Nat) : Int) - ((bulkL (List.take y0 a) : Nat) : Int)) (szT left (bulk a))))))))))) (by kernel_rfl) ?_
  unfold T2 T3 T4 T8
  obtain ⟨hp0, hp1⟩ := hpre
  have hm : a.length ≤ maxLen := hwf.1.1
  have H0 := szT_cases left (bulk a)
  have hb : bulk a = a.length + bulkL a := rfl
  have w0 := wrapD (left - ((List.length a : Nat) : Int))
  unfold maxLen at hm
  have z0 : bulkL (List.take 0 a) = 0 := rfl
  have z1 : bulkL (List.take a.length a) = bulkL a := by rw [List.take_length]
  simp only [SIA, eq_self]
  refine ⟨fun h => by omega, fun h => ⟨⟨0, ⟨Nat.zero_le _, by omega⟩, ?_⟩, fun k hk => ⟨fun hlt => ?_, fun hge => ?_⟩⟩⟩
  · first | (refine ⟨?_, ?_⟩ <;> omega) | omega
  · have hlt : k < a.length := by omega
    have hk := nth_getElem? (t := tyNote) hlt
    have s1 : bulkL (List.take (k + 1) a) = bulkL (List.take k a) + bulk (nth_Note a k) := bulkL_snoc hk
    have s2 : bulkL (List.take (k + 1) a) ≤ bulkL a := bulkL_le a (k + 1)
    have k1 := wrapN (k := k) (by unfold maxLen; omega)
    have w1 := szT_cases (left - ((List.length a : Nat) : Int) - ((bulkL (List.take k a) : Nat) : Int)) (bulk (nth_Note a k))
    (try unfold maxLen at *)
    repeat' (first | apply And.intro | intro _)
    all_goals (first | trivial | omega | (refine ⟨k + 1, ⟨by omega, by omega⟩, by omega, ?_⟩; first | (refine ⟨?_, ?_⟩ <;> omega) | omega))
  · obtain rfl : k = a.length := by omega
    omega
def e_l_szNoteS : Entry Tryz.prog := ⟨50, [.v (.list tyNote), .v tyInt], fun x => szP x.2.1, fun x => .c (.int .i64 (szT x.2.1 (bulk x.1))), fun _ => [], fun x hx => b_l_szNoteS x.1 x.2.1 hx, Tryz.call50⟩
theorem b_l_szQueue (a : GQueue) (left : Int) (hpre : szP left) : BCalls Tryz.prog 21 [.ag [.hs .no tyNote a.1, .bool a.2.1, .bool a.2.2], .c (.int .i64 left)] (.c (.int .i64 (szT left (bulk a)))) [] := by
  refine bc0 [e_l_szNoteS] [] [] [] L0 Tryz.func21 (fun hwf => ?_)
  refine Eq.mpr (β := (True ∧ (True ∧ (True ∧ (True ∧ (True ∧ ((szP left ∧ true = true) ∧ (True ∧ (True ∧ (True ∧ (bif (ltI (szT left (bulk a.1)) 0) then (True ∧ (rI (-1) (szT left (bulk a)))) else (True ∧ (True ∧ (rI (szT left (bulk a.1)) (szT left (bulk a)))))))))))))))) (by kernel_rfl) ?_
  obtain ⟨hp0, hp1⟩ := hpre
  have H0 := szT_cases left (bulk a)
  have hb : bulk a = bulk a.1 := by
    have e : bulk a = bulk a.1 + (0 + (0)) := rfl
    omega
  have w0 := szT_cases left (bulk a.1)
  try unfold maxLen at *
  simp only [SIA, eq_self]
  repeat' (first | apply And.intro | intro _)
  all_goals (first | trivial | omega)
def e_l_szQueue : Entry Tryz.prog := ⟨21, [.s tyQueue, .v tyInt], fun x => szP x.2.1, fun x => .c (.int .i64 (szT x.2.1 (bulk x.1))), fun _ => [], fun x hx => b_l_szQueue x.1 x.2.1 hx, Tryz.call21⟩
theorem b_l_szOut (a : GOut) (left : Int) (hpre : szP left) : BCalls Tryz.prog 23 [.ag [.str a.1, .str a.2], .c (.int .i64 left)] (.c (.int .i64 (szT left (bulk a)))) [] := by
  refine bc0 [] [] [] [] L0 Tryz.func23 (fun hwf => ?_)
  refine Eq.mpr (β := (True ∧ (True ∧ (True ∧ (True ∧ (True ∧ (True ∧ (True ∧ (True ∧ (True ∧ (True ∧ (bif (ltI (IntKind.wrap .i64 (left - ((ByteArray.size a.1 : Nat) : Int))) 0) then (True ∧ (rI (-1) (szT left (bulk a)))) else (True ∧ (True ∧ (True ∧ (True ∧ (True ∧ (True ∧ (True ∧ (True ∧ (bif (ltI (IntKind.wrap .i64 ((IntKind.wrap .i64 (left - ((ByteArray.size a.1 : Nat) : Int))) - ((ByteArray.size a.2 : Nat) : Int))) 0) then (True ∧ (rI (-1) (szT left (bulk a)))) else (True ∧ (True ∧ (rI (IntKind.wrap .i64 ((IntKind.wrap .i64 (left - ((ByteArray.size a.1 : Nat) : Int))) - ((ByteArray.size a.2 : Nat) : Int))) (szT left (bulk a)))))))))))))))))))))))))) (by kernel_rfl) ?_
  obtain ⟨hp0, hp1⟩ := hpre
  have H0 := szT_cases left (bulk a)
  have hb : bulk a = ByteArray.size a.1 + ByteArray.size a.2 := by
    have e : bulk a = ByteArray.size a.1 + (ByteArray.size a.2) := rfl
    omega
  have m0 : ByteArray.size a.1 ≤ maxLen := hwf.1.1
  have m1 : ByteArray.size a.2 ≤ maxLen := hwf.1.2.1
  have w0 := wrapD (left - ((ByteArray.size a.1 : Nat) : Int))
  have w1 := wrapD ((IntKind.wrap .i64 (left - ((ByteArray.size a.1 : Nat) : Int))) - ((ByteArray.size a.2 : Nat) : Int))
  try unfold maxLen at *
  simp only [SIA, eq_self]
  repeat' (first | apply And.intro | intro _)
  all_goals (first | trivial | omega)
def e_l_szOut : Entry Tryz.prog := ⟨23, [.s tyOut, .v tyInt], fun x => szP x.2.1, fun x => .c (.int .i64 (szT x.2.1 (bulk x.1))), fun _ => [], fun x hx => b_l_szOut x.1 x.2.1 hx, Tryz.call23⟩
theorem b_l_szIn (a : GIn) (left : Int) (hpre : szP left) : BCalls Tryz.prog 22 [.ag [.str a.1, .bool a.2], .c (.int .i64 left)] (.c (.int .i64 (szT left (bulk a)))) [] := by
  refine bc0 [] [] [] [] L0 Tryz.func22 (fun hwf => ?_)
  refine Eq.mpr (β := (True ∧ (True ∧ (True ∧ (True ∧ (True ∧ (True ∧ (True ∧ (True ∧ (True ∧ (True ∧ (bif (ltI (IntKind.wrap .i64 (left - ((ByteArray.size a.1 : Nat) : Int))) 0) then (True ∧ (rI (-1) (szT left (bulk a)))) else (True ∧ (True ∧ (rI (IntKind.wrap .i64 (left - ((ByteArray.size a.1 : Nat) : Int))) (szT left (bulk a))))))))))))))))) (by kernel_rfl) ?_
  obtain ⟨hp0, hp1⟩ := hpre
  have H0 := szT_cases left (bulk a)
  have hb : bulk a = ByteArray.size a.1 := by
    have e : bulk a = ByteArray.size a.1 + (0) := rfl
    omega
  have m0 : ByteArray.size a.1 ≤ maxLen := hwf.1.1
  have w0 := wrapD (left - ((ByteArray.size a.1 : Nat) : Int))
  try unfold maxLen at *
  simp only [SIA, eq_self]
  repeat' (first | apply And.intro | intro _)
  all_goals (first | trivial | omega)
def e_l_szIn : Entry Tryz.prog := ⟨22, [.s tyIn, .v tyInt], fun x => szP x.2.1, fun x => .c (.int .i64 (szT x.2.1 (bulk x.1))), fun _ => [], fun x hx => b_l_szIn x.1 x.2.1 hx, Tryz.call22⟩
theorem b_l_szSession (a : GSession) (left : Int) (hpre : szP left) : BCalls Tryz.prog 6 [.ag (cellsOf tySession a), .c (.int .i64 left)] (.c (.int .i64 (szT left (bulk a)))) [] := by
  refine bc0 [e_l_szView, e_l_szFilter, e_l_szQueue, e_l_szIn, e_l_szOut] [] [] [] L0 Tryz.func6 (fun hwf => ?_)
  refine Eq.mpr (β := (T5 ((szP left ∧ true = true) ∧ (T3 (bif (ltI (szT left (bulk a.2.2.2.2.1)) 0) then (True ∧ (rI (-1) (szT left (bulk a)))) else (T3 ((szP (szT left (bulk a.2.2.2.2.1)) ∧ true = true) ∧ (T3 (bif (ltI (szT (szT left (bulk a.2.2.2.2.1)) (bulk a.2.2.2.2.2.1)) 0) then (True ∧ (rI (-1) (szT left (bulk a)))) else (T8 (bif (ltI (IntKind.wrap .i64 (szT (szT left (bulk a.2.2.2.2.1)) (bulk a.2.2.2.2.2.1) - ((ByteArray.size a.2.2.2.2.2.2.1 : Nat) : Int))) 0) then (True ∧ (rI (-1) (szT left (bulk a)))) else (T8 (bif (ltI (IntKind.wrap .i64 ((IntKind.wrap .i64 (szT (szT left (bulk a.2.2.2.2.1)) (bulk a.2.2.2.2.2.1) - ((ByteArray.size a.2.2.2.2.2.2.1 : Nat) : Int))) - ((ByteArray.size a.2.2.2.2.2.2.2.1 : Nat) : Int))) 0) then (True ∧ (rI (-1) (szT left (bulk a)))) else (T3 ((szP (IntKind.wrap .i64 ((IntKind.wrap .i64 (szT (szT left (bulk a.2.2.2.2.1)) (bulk a.2.2.2.2.2.1) - ((ByteArray.size a.2.2.2.2.2.2.1 : Nat) : Int))) - ((ByteArray.size a.2.2.2.2.2.2.2.1 : Nat) : Int))) ∧ true = true) ∧ (T3 (bif (ltI (szT (IntKind.wrap .i64 ((IntKind.wrap .i64 (szT (szT left (bulk a.2.2.2.2.1)) (bulk a.2.2.2.2.2.1) - ((ByteArray.size a.2.2.2.2.2.2.1 : Nat) : Int))) - ((ByteArray.size a.2.2.2.2.2.2.2.1 : Nat) : Int))) (bulk a.2.2.2.2.2.2.2.2.1)) 0) then (True ∧ (rI (-1) (szT left (bulk a)))) else (T3 ((szP (szT (IntKind.wrap .i64 ((IntKind.wrap .i64 (szT (szT left (bulk a.2.2.2.2.1)) (bulk a.2.2.2.2.2.1) - ((ByteArray.size a.2.2.2.2.2.2.1 : Nat) : Int))) - ((ByteArray.size a.2.2.2.2.2.2.2.1 : Nat) : Int))) (bulk a.2.2.2.2.2.2.2.2.1)) ∧ true = true) ∧ (T3 (bif (ltI (szT (szT (IntKind.wrap .i64 ((IntKind.wrap .i64 (szT (szT left (bulk a.2.2.2.2.1)) (bulk a.2.2.2.2.2.1) - ((ByteArray.size a.2.2.2.2.2.2.1 : Nat) : Int))) - ((ByteArray.size a.2.2.2.2.2.2.2.1 : Nat) : Int))) (bulk a.2.2.2.2.2.2.2.2.1)) (bulk a.2.2.2.2.2.2.2.2.2.1)) 0) then (True ∧ (rI (-1) (szT left (bulk a)))) else (T3 ((szP (szT (szT (IntKind.wrap .i64 ((IntKind.wrap .i64 (szT (szT left (bulk a.2.2.2.2.1)) (bulk a.2.2.2.2.2.1) - ((ByteArray.size a.2.2.2.2.2.2.1 : Nat) : Int))) - ((ByteArray.size a.2.2.2.2.2.2.2.1 : Nat) : Int))) (bulk a.2.2.2.2.2.2.2.2.1)) (bulk a.2.2.2.2.2.2.2.2.2.1)) ∧ true = true) ∧ (T3 (bif (ltI (szT (szT (szT (IntKind.wrap .i64 ((IntKind.wrap .i64 (szT (szT left (bulk a.2.2.2.2.1)) (bulk a.2.2.2.2.2.1) - ((ByteArray.size a.2.2.2.2.2.2.1 : Nat) : Int))) - ((ByteArray.size a.2.2.2.2.2.2.2.1 : Nat) : Int))) (bulk a.2.2.2.2.2.2.2.2.1)) (bulk a.2.2.2.2.2.2.2.2.2.1)) (bulk a.2.2.2.2.2.2.2.2.2.2.1)) 0) then (True ∧ (rI (-1) (szT left (bulk a)))) else (T2 (rI (szT (szT (szT (IntKind.wrap .i64 ((IntKind.wrap .i64 (szT (szT left (bulk a.2.2.2.2.1)) (bulk a.2.2.2.2.2.1) - ((ByteArray.size a.2.2.2.2.2.2.1 : Nat) : Int))) - ((ByteArray.size a.2.2.2.2.2.2.2.1 : Nat) : Int))) (bulk a.2.2.2.2.2.2.2.2.1)) (bulk a.2.2.2.2.2.2.2.2.2.1)) (bulk a.2.2.2.2.2.2.2.2.2.2.1)) (szT left (bulk a))))))))))))))))))))))))))))) (by kernel_rfl) ?_
  unfold T2 T3 T5 T8
  obtain ⟨hp0, hp1⟩ := hpre
  have H0 := szT_cases left (bulk a)
  have hb : bulk a = bulk a.2.2.2.2.1 + bulk a.2.2.2.2.2.1 + ByteArray.size a.2.2.2.2.2.2.1 + ByteArray.size a.2.2.2.2.2.2.2.1 + bulk a.2.2.2.2.2.2.2.2.1 + bulk a.2.2.2.2.2.2.2.2.2.1 + bulk a.2.2.2.2.2.2.2.2.2.2.1 := by
    have e : bulk a = 0 + (0 + (0 + (0 + (bulk a.2.2.2.2.1 + (bulk a.2.2.2.2.2.1 + (ByteArray.size a.2.2.2.2.2.2.1 + (ByteArray.size a.2.2.2.2.2.2.2.1 + (bulk a.2.2.2.2.2.2.2.2.1 + (bulk a.2.2.2.2.2.2.2.2.2.1 + (bulk a.2.2.2.2.2.2.2.2.2.2.1 + (0))))))))))) := rfl
    omega
  have m6 : ByteArray.size a.2.2.2.2.2.2.1 ≤ maxLen := hwf.1.2.2.2.2.2.2.2.1
  have m7 : ByteArray.size a.2.2.2.2.2.2.2.1 ≤ maxLen := hwf.1.2.2.2.2.2.2.2.2.1
  have w4 := szT_cases left (bulk a.2.2.2.2.1)
  have w5 := szT_cases (szT left (bulk a.2.2.2.2.1)) (bulk a.2.2.2.2.2.1)
  have w6 := wrapD ((szT (szT left (bulk a.2.2.2.2.1)) (bulk a.2.2.2.2.2.1)) - ((ByteArray.size a.2.2.2.2.2.2.1 : Nat) : Int))
  have w7 := wrapD ((IntKind.wrap .i64 ((szT (szT left (bulk a.2.2.2.2.1)) (bulk a.2.2.2.2.2.1)) - ((ByteArray.size a.2.2.2.2.2.2.1 : Nat) : Int))) - ((ByteArray.size a.2.2.2.2.2.2.2.1 : Nat) : Int))
  have w8 := szT_cases (IntKind.wrap .i64 ((IntKind.wrap .i64 ((szT (szT left (bulk a.2.2.2.2.1)) (bulk a.2.2.2.2.2.1)) - ((ByteArray.size a.2.2.2.2.2.2.1 : Nat) : Int))) - ((ByteArray.size a.2.2.2.2.2.2.2.1 : Nat) : Int))) (bulk a.2.2.2.2.2.2.2.2.1)
  have w9 := szT_cases (szT (IntKind.wrap .i64 ((IntKind.wrap .i64 ((szT (szT left (bulk a.2.2.2.2.1)) (bulk a.2.2.2.2.2.1)) - ((ByteArray.size a.2.2.2.2.2.2.1 : Nat) : Int))) - ((ByteArray.size a.2.2.2.2.2.2.2.1 : Nat) : Int))) (bulk a.2.2.2.2.2.2.2.2.1)) (bulk a.2.2.2.2.2.2.2.2.2.1)
  have w10 := szT_cases (szT (szT (IntKind.wrap .i64 ((IntKind.wrap .i64 ((szT (szT left (bulk a.2.2.2.2.1)) (bulk a.2.2.2.2.2.1)) - ((ByteArray.size a.2.2.2.2.2.2.1 : Nat) : Int))) - ((ByteArray.size a.2.2.2.2.2.2.2.1 : Nat) : Int))) (bulk a.2.2.2.2.2.2.2.2.1)) (bulk a.2.2.2.2.2.2.2.2.2.1)) (bulk a.2.2.2.2.2.2.2.2.2.2.1)
  try unfold maxLen at *
  simp only [SIA, eq_self]
  repeat' (first | apply And.intro | intro _)
  all_goals (first | trivial | omega)
def e_l_szSession : Entry Tryz.prog := ⟨6, [.s tySession, .v tyInt], fun x => szP x.2.1, fun x => .c (.int .i64 (szT x.2.1 (bulk x.1))), fun _ => [], fun x hx => b_l_szSession x.1 x.2.1 hx, Tryz.call6⟩
end Go.Proofs.YtdfanfpembebmaaGreatDoor
