/-
  The laws' functions markX.
  No condition but what the arguments' cells hold. Printed by vcgen.py.
-/
import Derived.Test.YtbpapaponnfagaaMMarkB
set_option linter.unusedSimpArgs false
set_option linter.unusedVariables false
set_option maxRecDepth 100000
set_option maxHeartbeats 4000000
namespace Go.Proofs.Ytbpapaponnfagaa
open Go.ChangeShapes Go.WideShapes Go.ChangeAt Go.RowKit Go.Joins Go.Deep
open GoRep (rep bulk)

open GoMark (mrk cnt mrkI cntI)
abbrev mkR_l_markStringS (a : List ByteArray) (m : Int) : Int := m + ((cntL a : Nat) : Int)
abbrev mkF_l_markStringS (a : List ByteArray) (m : Int) : List ByteArray := markL a m
abbrev mkK_l_markStringS (a : List ByteArray) (m : Int) (k : Nat) : List ByteArray := mkTo a m k
abbrev mkP_l_markStringS (a : List ByteArray) (m : Int) : Prop := 0 ≤ m ∧ m + cntL a ≤ 4611686018427387904
def L_l_markStringS (a : List ByteArray) (m : Int) : Nat → List AV → Mem → LoopA
  | 2, tm, M => ⟨Nat, fun y => (anyR (setA tm [(1, .c (.int .i64 (m + ((cntL (List.take y a) : Nat) : Int)))), (5, .c (.int .i64 ((y : Nat) : Int)))]) 6 13, setM M [(0, .row tyStr (mkK_l_markStringS a m y) 0 0 none)]), fun y => (y ≤ List.length a), fun y => (List.length a - y)⟩
  | _, _, _ => ⟨Unit, fun _ => ([], []), fun _ => False, fun _ => 0⟩
theorem m_l_markStringS (a : List ByteArray) (m : Int) (hpre : mkP_l_markStringS a m) : MCalls Try.prog 79 (argsM 0 [(.q false (.list tyStr)), (.a (.v tyInt))] (a, m, ())) (preM 0 [(.q false (.list tyStr)), (.a (.v tyInt))] (a, m, ())) (postM 0 [(.q false (.list tyStr)), (.a (.v tyInt))] (mkF_l_markStringS a m, m, ()) ++ []) (inpM 0 [(.q false (.list tyStr)), (.a (.v tyInt))]) (.c (.int .i64 (mkR_l_markStringS a m))) := by
  refine mcalls_of (T := ⟨[e_l_markText], [], [], [], none, fun _ => [], 1, [0], []⟩) (L := (L_l_markStringS a m)) Try.func79 rfl rfl rfl (by kernel_rfl) (fun hwf hwm => ?_)
  refine Eq.mpr (β := (T2 ((∃ q : Nat, (q ≤ List.length a) ∧ ((lxs [.c (.row 0 0)] (leV (.c (.int .i64 m)) (.c (.int .i64 (m + ((cntL (List.take q a) : Nat) : Int)))) ∧ lxs [.tp [], .tp [], .c (.int .i64 0)] (leV (.c (.int .i64 0)) (.c (.int .i64 ((q : Nat) : Int))) ∧ TN 13 (lxs [.tp []] True)))) ∧ (leB (.row tyStr a 0 0 none) (.row tyStr (mkK_l_markStringS a m q) 0 0 none) ∧ True) ∧ true = true)) ∧ ∀ y0 : Nat, (y0 ≤ List.length a) → (T4 (bif (ltI ((y0 : Nat) : Int) ((List.length (mkK_l_markStringS a m y0) : Nat) : Int)) then (T3 ((markP (m + ((cntL (List.take y0 a) : Nat) : Int)) ∧ true = true) ∧ (((1 : Nat) = 1 ∧ (0 : Int) ≤ ((y0 : Nat) : Int) ∧ (((y0 : Nat) : Int) : Int) < ((List.length (mkK_l_markStringS a m y0) : Nat) : Int)) ∧ (True ∧ ∀ r1 : List ByteArray, r1 = (List.set (mkK_l_markStringS a m y0) (Int.toNat ((y0 : Nat) : Int)) (markT (m + ((cntL (List.take y0 a) : Nat) : Int)))) → (T6 (∃ y0' : Nat, (y0' ≤ List.length a) ∧ (List.length a - y0') < (List.length a - y0) ∧ ((lxs [.c (.row 0 0)] (leV (.c (.int .i64 (IntKind.wrap .i64 ((m + ((cntL (List.take y0 a) : Nat) : Int)) + 1)))) (.c (.int .i64 (m + ((cntL (List.take y0' a) : Nat) : Int)))) ∧ lxs [.tp [], .tp [], .c (.int .i64 0)] (leV (.c (.int .i64 (IntKind.wrap .i64 (((y0 : Nat) : Int) + 1)))) (.c (.int .i64 ((y0' : Nat) : Int))) ∧ TN 13 (lxs [.tp []] True)))) ∧ (leB (.row tyStr r1 0 0 none) (.row tyStr (mkK_l_markStringS a m y0') 0 0 none) ∧ True) ∧ true = true))))))) else (T2 (((((mkK_l_markStringS a m y0) = (mkF_l_markStringS a m)) ∧ True) ∧ (true = true ∧ leC (.int .i64 (m + ((cntL (List.take y0 a) : Nat) : Int))) (.int .i64 (mkR_l_markStringS a m)))) ∧ true = true))))))) (by kernel_rfl) ?_
  unfold T2 T3 T4 T6
  obtain ⟨hm0, hm1⟩ := hpre
  have hlm : a.length ≤ maxLen := hwm.1.1
  unfold maxLen at hlm
  simp only [SIA, eq_self]
  refine ⟨⟨0, Nat.zero_le _, ⟨by simp [cntL], rfl⟩, Eq.mpr (leB_row (t := tyStr)) (mkTo_zero a m).symm⟩, fun k hk => ⟨fun hlt => ?_, fun hge => ?_⟩⟩
  · have l0 : (mkK_l_markStringS a m k).length = a.length := mkTo_len a m k
    have hlt : k < a.length := by omega
    have hg : a[k]? = some (nth_String a k) := nth_getElem? (t := tyStr) hlt
    have hc : cntL (List.take (k + 1) a) = cntL (List.take k a) + (1) := cntL_snoc hg
    have hcl : cntL (List.take (k + 1) a) ≤ cntL a := cntL_le a (k + 1)
    have hg0 : (mkK_l_markStringS a m k)[k]? = some (nth_String a k) := mkTo_get hg
    have hk0 : k < (mkK_l_markStringS a m k).length := by omega
    have e0 : nth_String (mkK_l_markStringS a m k) k = nth_String a k := nth_of_get (t := tyStr) hg0
    try simp (disch := omega) only [wrapA, wrapA, mkR_l_markStringS]
    repeat (refine ⟨by first | omega | exact ⟨by omega, by omega⟩ | exact ⟨by omega, by omega, by omega⟩, ?_⟩)
    intro r1 h1
    have l1 : r1.length = a.length := by rw [h1, List.length_set]; exact l0
    try rw [e0] at h1
    try dsimp only at h1
    have e1 : nth_String r1 k = _ := (congrArg (fun r => nth_String r k) h1).trans (nth_set_self (t := tyStr) hk0)
    try rw [e1]
    try simp (disch := omega) only [wrapA, wrapA, mkR_l_markStringS]
    refine ⟨k + 1, hlt, by clear e1 h1 l1 r1; omega, ⟨by clear e1 h1 l1 r1; first | omega | (simp (disch := omega) only [wrapA, wrapA, mkR_l_markStringS]; omega), by clear e1 h1 l1 r1; first | omega | exact wrapN (by unfold maxLen; omega)⟩, Eq.mpr (leB_row (t := tyStr)) (h1.trans (mkTo_set hg ?_))⟩
    first
      | (with_reducible rfl)
      | (refine Eq.trans ?_ (mrkX_Session _ _ (by omega)).symm; with_reducible rfl)
      | (repeat' (refine Prod.ext ?_ ?_)
         all_goals first
           | (with_reducible rfl)
           | (simp only [GXA]; first | done | omega | (congr 1; done) | (congr 1; omega) | (rw [mark_bool (by omega), decide_eq_decide]; omega))
           | rfl)
  · have l0 : (mkK_l_markStringS a m k).length = a.length := mkTo_len a m k
    obtain rfl : k = a.length := by omega
    exact ⟨mkTo_end a m, by rw [List.take_length]⟩
def e_l_markStringS : MEntry Try.prog := ⟨79, [(.q false (.list tyStr)), (.a (.v tyInt))], fun x => mkP_l_markStringS x.1 x.2.1, fun x => (mkF_l_markStringS x.1 x.2.1, x.2.1, ()), fun x => .c (.int .i64 (mkR_l_markStringS x.1 x.2.1)), fun _ => [], fun x hx => m_l_markStringS x.1 x.2.1 hx, Try.call79⟩
abbrev mkR_l_markTokenS (a : List GToken) (m : Int) : Int := m + ((cntL a : Nat) : Int)
abbrev mkF_l_markTokenS (a : List GToken) (m : Int) : List GToken := markL a m
abbrev mkK_l_markTokenS (a : List GToken) (m : Int) (k : Nat) : List GToken := mkTo a m k
abbrev mkP_l_markTokenS (a : List GToken) (m : Int) : Prop := 0 ≤ m ∧ m + cntL a ≤ 4611686018427387904
def L_l_markTokenS (a : List GToken) (m : Int) : Nat → List AV → Mem → LoopA
  | 2, tm, M => ⟨Nat, fun y => (anyR (setA tm [(1, .c (.int .i64 (m + ((cntL (List.take y a) : Nat) : Int)))), (5, .c (.int .i64 ((y : Nat) : Int)))]) 6 21, setM M [(0, .row tyToken (mkK_l_markTokenS a m y) 0 0 none)]), fun y => (y ≤ List.length a), fun y => (List.length a - y)⟩
  | _, _, _ => ⟨Unit, fun _ => ([], []), fun _ => False, fun _ => 0⟩
theorem m_l_markTokenS (a : List GToken) (m : Int) (hpre : mkP_l_markTokenS a m) : MCalls Try.prog 12 (argsM 0 [(.q false (.list tyToken)), (.a (.v tyInt))] (a, m, ())) (preM 0 [(.q false (.list tyToken)), (.a (.v tyInt))] (a, m, ())) (postM 0 [(.q false (.list tyToken)), (.a (.v tyInt))] (mkF_l_markTokenS a m, m, ()) ++ []) (inpM 0 [(.q false (.list tyToken)), (.a (.v tyInt))]) (.c (.int .i64 (mkR_l_markTokenS a m))) := by
  refine mcalls_of (T := ⟨[e_l_markText], [], [], [], none, fun _ => [], 1, [0], []⟩) (L := (L_l_markTokenS a m)) Try.func12 rfl rfl rfl (by kernel_rfl) (fun hwf hwm => ?_)
  refine Eq.mpr (β := (T2 ((∃ q : Nat, (q ≤ List.length a) ∧ ((lxs [.c (.row 0 0)] (leV (.c (.int .i64 m)) (.c (.int .i64 (m + ((cntL (List.take q a) : Nat) : Int)))) ∧ lxs [.tp [], .tp [], .c (.int .i64 0)] (leV (.c (.int .i64 0)) (.c (.int .i64 ((q : Nat) : Int))) ∧ TN 21 (lxs [.tp []] True)))) ∧ (leB (.row tyToken a 0 0 none) (.row tyToken (mkK_l_markTokenS a m q) 0 0 none) ∧ True) ∧ true = true)) ∧ ∀ y0 : Nat, (y0 ≤ List.length a) → (T4 (bif (ltI ((y0 : Nat) : Int) ((List.length (mkK_l_markTokenS a m y0) : Nat) : Int)) then (T3 (((2 : Nat) = 2 ∧ (0 : Int) ≤ ((y0 : Nat) : Int) ∧ (((y0 : Nat) : Int) : Int) < ((List.length (mkK_l_markTokenS a m y0) : Nat) : Int)) ∧ (T2 (∀ r1 : List GToken, r1 = (List.set (mkK_l_markTokenS a m y0) (Int.toNat ((y0 : Nat) : Int)) ((m + ((cntL (List.take y0 a) : Nat) : Int)), (nth_Token (mkK_l_markTokenS a m y0) (Int.toNat ((y0 : Nat) : Int))).2)) → (T6 ((markP (IntKind.wrap .i64 ((m + ((cntL (List.take y0 a) : Nat) : Int)) + 1)) ∧ true = true) ∧ (((2 : Nat) = 2 ∧ (0 : Int) ≤ ((y0 : Nat) : Int) ∧ (((y0 : Nat) : Int) : Int) < ((List.length r1 : Nat) : Int)) ∧ (T2 (∀ r2 : List GToken, r2 = (List.set r1 (Int.toNat ((y0 : Nat) : Int)) ((nth_Token r1 (Int.toNat ((y0 : Nat) : Int))).1, markT (IntKind.wrap .i64 ((m + ((cntL (List.take y0 a) : Nat) : Int)) + 1)))) → (T6 (∃ y0' : Nat, (y0' ≤ List.length a) ∧ (List.length a - y0') < (List.length a - y0) ∧ ((lxs [.c (.row 0 0)] (leV (.c (.int .i64 (IntKind.wrap .i64 ((IntKind.wrap .i64 ((m + ((cntL (List.take y0 a) : Nat) : Int)) + 1)) + 1)))) (.c (.int .i64 (m + ((cntL (List.take y0' a) : Nat) : Int)))) ∧ lxs [.tp [], .tp [], .c (.int .i64 0)] (leV (.c (.int .i64 (IntKind.wrap .i64 (((y0 : Nat) : Int) + 1)))) (.c (.int .i64 ((y0' : Nat) : Int))) ∧ TN 21 (lxs [.tp []] True)))) ∧ (leB (.row tyToken r2 0 0 none) (.row tyToken (mkK_l_markTokenS a m y0') 0 0 none) ∧ True) ∧ true = true)))))))))))) else (T2 (((((mkK_l_markTokenS a m y0) = (mkF_l_markTokenS a m)) ∧ True) ∧ (true = true ∧ leC (.int .i64 (m + ((cntL (List.take y0 a) : Nat) : Int))) (.int .i64 (mkR_l_markTokenS a m)))) ∧ true = true))))))) (by kernel_rfl) ?_
  unfold T2 T3 T4 T6
  obtain ⟨hm0, hm1⟩ := hpre
  have hlm : a.length ≤ maxLen := hwm.1.1
  unfold maxLen at hlm
  simp only [SIA, eq_self]
  refine ⟨⟨0, Nat.zero_le _, ⟨by simp [cntL], rfl⟩, Eq.mpr (leB_row (t := tyToken)) (mkTo_zero a m).symm⟩, fun k hk => ⟨fun hlt => ?_, fun hge => ?_⟩⟩
  · have l0 : (mkK_l_markTokenS a m k).length = a.length := mkTo_len a m k
    have hlt : k < a.length := by omega
    have hg : a[k]? = some (nth_Token a k) := nth_getElem? (t := tyToken) hlt
    have hc : cntL (List.take (k + 1) a) = cntL (List.take k a) + (1 + (1)) := cntL_snoc hg
    have hcl : cntL (List.take (k + 1) a) ≤ cntL a := cntL_le a (k + 1)
    have hg0 : (mkK_l_markTokenS a m k)[k]? = some (nth_Token a k) := mkTo_get hg
    have hk0 : k < (mkK_l_markTokenS a m k).length := by omega
    have e0 : nth_Token (mkK_l_markTokenS a m k) k = nth_Token a k := nth_of_get (t := tyToken) hg0
    try simp (disch := omega) only [wrapA, wrapA, mkR_l_markStringS, mkR_l_markTokenS]
    repeat (refine ⟨by first | omega | exact ⟨by omega, by omega⟩ | exact ⟨by omega, by omega, by omega⟩, ?_⟩)
    intro r1 h1
    have l1 : r1.length = a.length := by rw [h1, List.length_set]; exact l0
    try rw [e0] at h1
    try dsimp only at h1
    have e1 : nth_Token r1 k = _ := (congrArg (fun r => nth_Token r k) h1).trans (nth_set_self (t := tyToken) hk0)
    try rw [e1]
    try simp (disch := omega) only [wrapA, wrapA, mkR_l_markStringS, mkR_l_markTokenS]
    repeat (refine ⟨by first | omega | exact ⟨by omega, by omega⟩ | exact ⟨by omega, by omega, by omega⟩, ?_⟩)
    intro r2 h2
    have l2 : r2.length = a.length := by rw [h2, List.length_set]; exact l1
    try rw [e1] at h2
    try dsimp only at h2
    rw [h1, List.set_set] at h2
    have e2 : nth_Token r2 k = _ := (congrArg (fun r => nth_Token r k) h2).trans (nth_set_self (t := tyToken) hk0)
    try rw [e2]
    try simp (disch := omega) only [wrapA, wrapA, mkR_l_markStringS, mkR_l_markTokenS]
    refine ⟨k + 1, hlt, by clear e1 h1 l1 r1 e2 h2 l2 r2; omega, ⟨by clear e1 h1 l1 r1 e2 h2 l2 r2; first | omega | (simp (disch := omega) only [wrapA, wrapA, mkR_l_markStringS, mkR_l_markTokenS]; omega), by clear e1 h1 l1 r1 e2 h2 l2 r2; first | omega | exact wrapN (by unfold maxLen; omega)⟩, Eq.mpr (leB_row (t := tyToken)) (h2.trans (mkTo_set hg ?_))⟩
    first
      | (with_reducible rfl)
      | (refine Eq.trans ?_ (mrkX_Session _ _ (by omega)).symm; with_reducible rfl)
      | (repeat' (refine Prod.ext ?_ ?_)
         all_goals first
           | (with_reducible rfl)
           | (simp only [GXA]; first | done | omega | (congr 1; done) | (congr 1; omega) | (rw [mark_bool (by omega), decide_eq_decide]; omega))
           | rfl)
  · have l0 : (mkK_l_markTokenS a m k).length = a.length := mkTo_len a m k
    obtain rfl : k = a.length := by omega
    exact ⟨mkTo_end a m, by rw [List.take_length]⟩
def e_l_markTokenS : MEntry Try.prog := ⟨12, [(.q false (.list tyToken)), (.a (.v tyInt))], fun x => mkP_l_markTokenS x.1 x.2.1, fun x => (mkF_l_markTokenS x.1 x.2.1, x.2.1, ()), fun x => .c (.int .i64 (mkR_l_markTokenS x.1 x.2.1)), fun _ => [], fun x hx => m_l_markTokenS x.1 x.2.1 hx, Try.call12⟩
abbrev mkR_l_markScopeS (a : List GScope) (m : Int) : Int := m + ((cntL a : Nat) : Int)
abbrev mkF_l_markScopeS (a : List GScope) (m : Int) : List GScope := markL a m
abbrev mkK_l_markScopeS (a : List GScope) (m : Int) (k : Nat) : List GScope := mkTo a m k
abbrev mkP_l_markScopeS (a : List GScope) (m : Int) : Prop := 0 ≤ m ∧ m + cntL a ≤ 4611686018427387904
def L_l_markScopeS (a : List GScope) (m : Int) : Nat → List AV → Mem → LoopA
  | 2, tm, M => ⟨Nat, fun y => (anyR (setA tm [(1, .c (.int .i64 (m + ((cntL (List.take y a) : Nat) : Int)))), (5, .c (.int .i64 ((y : Nat) : Int)))]) 6 27, setM M [(0, .row tyScope (mkK_l_markScopeS a m y) 0 0 none)]), fun y => (y ≤ List.length a), fun y => (List.length a - y)⟩
  | _, _, _ => ⟨Unit, fun _ => ([], []), fun _ => False, fun _ => 0⟩
theorem m_l_markScopeS (a : List GScope) (m : Int) (hpre : mkP_l_markScopeS a m) : MCalls Try.prog 42 (argsM 0 [(.q false (.list tyScope)), (.a (.v tyInt))] (a, m, ())) (preM 0 [(.q false (.list tyScope)), (.a (.v tyInt))] (a, m, ())) (postM 0 [(.q false (.list tyScope)), (.a (.v tyInt))] (mkF_l_markScopeS a m, m, ()) ++ []) (inpM 0 [(.q false (.list tyScope)), (.a (.v tyInt))]) (.c (.int .i64 (mkR_l_markScopeS a m))) := by
  refine mcalls_of (T := ⟨[], [], [], [e_l_markStringS], none, fun _ => [], 1, [0], []⟩) (L := (L_l_markScopeS a m)) Try.func42 rfl rfl rfl (by kernel_rfl) (fun hwf hwm => ?_)
  refine Eq.mpr (β := (T2 ((∃ q : Nat, (q ≤ List.length a) ∧ ((lxs [.c (.row 0 0)] (leV (.c (.int .i64 m)) (.c (.int .i64 (m + ((cntL (List.take q a) : Nat) : Int)))) ∧ lxs [.tp [], .tp [], .c (.int .i64 0)] (leV (.c (.int .i64 0)) (.c (.int .i64 ((q : Nat) : Int))) ∧ TN 27 (lxs [.tp []] True)))) ∧ (leB (.row tyScope a 0 0 none) (.row tyScope (mkK_l_markScopeS a m q) 0 0 none) ∧ True) ∧ true = true)) ∧ ∀ y0 : Nat, (y0 ≤ List.length a) → (T4 (bif (ltI ((y0 : Nat) : Int) ((List.length (mkK_l_markScopeS a m y0) : Nat) : Int)) then (T3 (((3 : Nat) = 3 ∧ (0 : Int) ≤ ((y0 : Nat) : Int) ∧ (((y0 : Nat) : Int) : Int) < ((List.length (mkK_l_markScopeS a m y0) : Nat) : Int)) ∧ (T2 (∀ r1 : List GScope, r1 = (List.set (mkK_l_markScopeS a m y0) (Int.toNat ((y0 : Nat) : Int)) ((m + ((cntL (List.take y0 a) : Nat) : Int)), (nth_Scope (mkK_l_markScopeS a m y0) (Int.toNat ((y0 : Nat) : Int))).2)) → (T5 (((3 : Nat) = 3 ∧ (0 : Int) ≤ ((y0 : Nat) : Int) ∧ (((y0 : Nat) : Int) : Int) < ((List.length r1 : Nat) : Int)) ∧ (T3 (((mkP_l_markStringS (nth_Scope r1 (Int.toNat ((y0 : Nat) : Int))).2.1 (IntKind.wrap .i64 ((m + ((cntL (List.take y0 a) : Nat) : Int)) + 1)) ∧ (((nth_Scope r1 (Int.toNat ((y0 : Nat) : Int))).2.1 = (nth_Scope r1 (Int.toNat ((y0 : Nat) : Int))).2.1) ∧ True)) ∧ true = true) ∧ ∀ r2 : List GScope, r2 = (List.set r1 (Int.toNat ((y0 : Nat) : Int)) ((nth_Scope r1 (Int.toNat ((y0 : Nat) : Int))).1, (mkF_l_markStringS (nth_Scope r1 (Int.toNat ((y0 : Nat) : Int))).2.1 (IntKind.wrap .i64 ((m + ((cntL (List.take y0 a) : Nat) : Int)) + 1)), (nth_Scope r1 (Int.toNat ((y0 : Nat) : Int))).2.2))) → (T4 (((3 : Nat) = 3 ∧ (0 : Int) ≤ ((y0 : Nat) : Int) ∧ (((y0 : Nat) : Int) : Int) < ((List.length r2 : Nat) : Int)) ∧ (T2 (∀ r3 : List GScope, r3 = (List.set r2 (Int.toNat ((y0 : Nat) : Int)) ((nth_Scope r2 (Int.toNat ((y0 : Nat) : Int))).1, ((nth_Scope r2 (Int.toNat ((y0 : Nat) : Int))).2.1, mkR_l_markStringS (nth_Scope r1 (Int.toNat ((y0 : Nat) : Int))).2.1 (IntKind.wrap .i64 ((m + ((cntL (List.take y0 a) : Nat) : Int)) + 1))))) → (T6 (∃ y0' : Nat, (y0' ≤ List.length a) ∧ (List.length a - y0') < (List.length a - y0) ∧ ((lxs [.c (.row 0 0)] (leV (.c (.int .i64 (IntKind.wrap .i64 (mkR_l_markStringS (nth_Scope r1 (Int.toNat ((y0 : Nat) : Int))).2.1 (IntKind.wrap .i64 ((m + ((cntL (List.take y0 a) : Nat) : Int)) + 1)) + 1)))) (.c (.int .i64 (m + ((cntL (List.take y0' a) : Nat) : Int)))) ∧ lxs [.tp [], .tp [], .c (.int .i64 0)] (leV (.c (.int .i64 (IntKind.wrap .i64 (((y0 : Nat) : Int) + 1)))) (.c (.int .i64 ((y0' : Nat) : Int))) ∧ TN 27 (lxs [.tp []] True)))) ∧ (leB (.row tyScope r3 0 0 none) (.row tyScope (mkK_l_markScopeS a m y0') 0 0 none) ∧ True) ∧ true = true))))))))))))))) else (T2 (((((mkK_l_markScopeS a m y0) = (mkF_l_markScopeS a m)) ∧ True) ∧ (true = true ∧ leC (.int .i64 (m + ((cntL (List.take y0 a) : Nat) : Int))) (.int .i64 (mkR_l_markScopeS a m)))) ∧ true = true))))))) (by kernel_rfl) ?_
  unfold T2 T3 T4 T5 T6
  obtain ⟨hm0, hm1⟩ := hpre
  have hlm : a.length ≤ maxLen := hwm.1.1
  unfold maxLen at hlm
  simp only [SIA, eq_self]
  refine ⟨⟨0, Nat.zero_le _, ⟨by simp [cntL], rfl⟩, Eq.mpr (leB_row (t := tyScope)) (mkTo_zero a m).symm⟩, fun k hk => ⟨fun hlt => ?_, fun hge => ?_⟩⟩
  · have l0 : (mkK_l_markScopeS a m k).length = a.length := mkTo_len a m k
    have hlt : k < a.length := by omega
    have hg : a[k]? = some (nth_Scope a k) := nth_getElem? (t := tyScope) hlt
    have hc : cntL (List.take (k + 1) a) = cntL (List.take k a) + (1 + (cntL (nth_Scope a k).2.1 + (1))) := cntL_snoc hg
    have hcl : cntL (List.take (k + 1) a) ≤ cntL a := cntL_le a (k + 1)
    have hg0 : (mkK_l_markScopeS a m k)[k]? = some (nth_Scope a k) := mkTo_get hg
    have hk0 : k < (mkK_l_markScopeS a m k).length := by omega
    have e0 : nth_Scope (mkK_l_markScopeS a m k) k = nth_Scope a k := nth_of_get (t := tyScope) hg0
    try simp (disch := omega) only [wrapA, wrapA, mkR_l_markStringS, mkR_l_markTokenS, mkR_l_markScopeS]
    repeat (refine ⟨by first | omega | exact ⟨by omega, by omega⟩ | exact ⟨by omega, by omega, by omega⟩, ?_⟩)
    intro r1 h1
    have l1 : r1.length = a.length := by rw [h1, List.length_set]; exact l0
    try rw [e0] at h1
    try dsimp only at h1
    have e1 : nth_Scope r1 k = _ := (congrArg (fun r => nth_Scope r k) h1).trans (nth_set_self (t := tyScope) hk0)
    try rw [e1]
    try simp (disch := omega) only [wrapA, wrapA, mkR_l_markStringS, mkR_l_markTokenS, mkR_l_markScopeS]
    repeat (refine ⟨by first | omega | exact ⟨by omega, by omega⟩ | exact ⟨by omega, by omega, by omega⟩, ?_⟩)
    intro r2 h2
    have l2 : r2.length = a.length := by rw [h2, List.length_set]; exact l1
    try rw [e1] at h2
    try dsimp only at h2
    rw [h1, List.set_set] at h2
    have e2 : nth_Scope r2 k = _ := (congrArg (fun r => nth_Scope r k) h2).trans (nth_set_self (t := tyScope) hk0)
    try rw [e2]
    try simp (disch := omega) only [wrapA, wrapA, mkR_l_markStringS, mkR_l_markTokenS, mkR_l_markScopeS]
    repeat (refine ⟨by first | omega | exact ⟨by omega, by omega⟩ | exact ⟨by omega, by omega, by omega⟩, ?_⟩)
    intro r3 h3
    have l3 : r3.length = a.length := by rw [h3, List.length_set]; exact l2
    try rw [e2] at h3
    try dsimp only at h3
    rw [h2, List.set_set] at h3
    have e3 : nth_Scope r3 k = _ := (congrArg (fun r => nth_Scope r k) h3).trans (nth_set_self (t := tyScope) hk0)
    try rw [e3]
    try simp (disch := omega) only [wrapA, wrapA, mkR_l_markStringS, mkR_l_markTokenS, mkR_l_markScopeS]
    refine ⟨k + 1, hlt, by clear e1 h1 l1 r1 e2 h2 l2 r2 e3 h3 l3 r3; omega, ⟨by clear e1 h1 l1 r1 e2 h2 l2 r2 e3 h3 l3 r3; first | omega | (simp (disch := omega) only [wrapA, wrapA, mkR_l_markStringS, mkR_l_markTokenS, mkR_l_markScopeS]; omega), by clear e1 h1 l1 r1 e2 h2 l2 r2 e3 h3 l3 r3; first | omega | exact wrapN (by unfold maxLen; omega)⟩, Eq.mpr (leB_row (t := tyScope)) (h3.trans (mkTo_set hg ?_))⟩
    first
      | (with_reducible rfl)
      | (refine Eq.trans ?_ (mrkX_Session _ _ (by omega)).symm; with_reducible rfl)
      | (repeat' (refine Prod.ext ?_ ?_)
         all_goals first
           | (with_reducible rfl)
           | (simp only [GXA]; first | done | omega | (congr 1; done) | (congr 1; omega) | (rw [mark_bool (by omega), decide_eq_decide]; omega))
           | rfl)
  · have l0 : (mkK_l_markScopeS a m k).length = a.length := mkTo_len a m k
    obtain rfl : k = a.length := by omega
    exact ⟨mkTo_end a m, by rw [List.take_length]⟩
def e_l_markScopeS : MEntry Try.prog := ⟨42, [(.q false (.list tyScope)), (.a (.v tyInt))], fun x => mkP_l_markScopeS x.1 x.2.1, fun x => (mkF_l_markScopeS x.1 x.2.1, x.2.1, ()), fun x => .c (.int .i64 (mkR_l_markScopeS x.1 x.2.1)), fun _ => [], fun x hx => m_l_markScopeS x.1 x.2.1 hx, Try.call42⟩
abbrev mkR_l_markFilter (a : GFilter) (m : Int) : Int := m + ((cntI a : Nat) : Int)
abbrev mkF_l_markFilter (a : GFilter) (m : Int) : GFilter := mrkI a m
abbrev mkP_l_markFilter (a : GFilter) (m : Int) : Prop := 0 ≤ m ∧ m + cntI a ≤ 4611686018427387904
theorem m_l_markFilter (a : GFilter) (m : Int) (hpre : mkP_l_markFilter a m) : MCalls Try.prog 13 (argsM 0 [(.q true tyFilter), (.a (.v tyInt))] (a, m, ())) (preM 0 [(.q true tyFilter), (.a (.v tyInt))] (a, m, ())) (postM 0 [(.q true tyFilter), (.a (.v tyInt))] (mkF_l_markFilter a m, m, ()) ++ []) (inpM 0 [(.q true tyFilter), (.a (.v tyInt))]) (.c (.int .i64 (mkR_l_markFilter a m))) := by
  refine mcalls_of (T := ⟨[], [], [], [e_l_markScopeS], none, fun _ => [], 1, [0], []⟩) (L := L0) Try.func13 rfl rfl rfl (by kernel_rfl) (fun hwf hwm => ?_)
  refine Eq.mpr (β := (True ∧ (True ∧ (True ∧ (True ∧ (True ∧ (((mkP_l_markScopeS a.2 m ∧ ((a.2 = a.2) ∧ True)) ∧ true = true) ∧ ∀ r0 : List GScope, r0 = mkF_l_markScopeS a.2 m → (True ∧ (True ∧ (True ∧ ((((r0 = (mkF_l_markFilter a m).2) ∧ True) ∧ (true = true ∧ leC (.int .i64 (mkR_l_markScopeS a.2 m)) (.int .i64 (mkR_l_markFilter a m)))) ∧ true = true))))))))))) (by kernel_rfl) ?_
  obtain ⟨hm0, hm1⟩ := hpre
  have hc0 : cntI a = 0 + (cntL a.2) := rfl
  simp only [SIA, eq_self]
  simp only [wrapA, mkR_l_markStringS, mkR_l_markTokenS, mkR_l_markScopeS, mkR_l_markFilter, mkF_l_markStringS, mkF_l_markTokenS, mkF_l_markScopeS, mkF_l_markFilter]
  repeat' (first | apply And.intro | intro _)
  all_goals first
    | trivial
    | omega
    | (subst_vars; first | rfl | omega | (simp only [GXA]; first | done | omega | (congr 1; omega)))
def e_l_markFilter : MEntry Try.prog := ⟨13, [(.q true tyFilter), (.a (.v tyInt))], fun x => mkP_l_markFilter x.1 x.2.1, fun x => (mkF_l_markFilter x.1 x.2.1, x.2.1, ()), fun x => .c (.int .i64 (mkR_l_markFilter x.1 x.2.1)), fun _ => [], fun x hx => m_l_markFilter x.1 x.2.1 hx, Try.call13⟩
end Go.Proofs.Ytbpapaponnfagaa
