/-
  The laws' functions markX.
  No condition but what the arguments' cells hold. Printed by vcgen.py.
-/
import Derived.Test.YtklnpeckhbiloaaGreatDoorKMarkB
set_option linter.unusedSimpArgs false
set_option linter.unusedVariables false
set_option maxRecDepth 100000
set_option maxHeartbeats 4000000
namespace Go.Proofs.YtklnpeckhbiloaaGreatDoor
open Go.ChangeShapes Go.WideShapes Go.ChangeAt Go.RowKit Go.Joins Go.Deep
open GoRep (rep bulk)

open GoMark (mrk cnt mrkI cntI)
abbrev mkR_l_markStringS (a : List ByteArray) (m : Int) : Int := m + ((cntL a : Nat) : Int)
abbrev mkF_l_markStringS (a : List ByteArray) (m : Int) : List ByteArray := markL a m
abbrev mkK_l_markStringS (a : List ByteArray) (m : Int) (k : Nat) : List ByteArray := mkTo a m k
abbrev mkP_l_markStringS (a : List ByteArray) (m : Int) : Prop := 0 ≤ m ∧ m + cntL a ≤ 4611686018427387904
def L_l_markStringS (a : List ByteArray) (m : Int) : Nat → List AV → Mem → LoopA
  | 2, tm, M => ⟨Nat, fun y => (anyR (setA tm [(1, .c (.int .i64 (m + ((cntL (List.take y a) : Nat) : Int)))), (5, .c (.int .i64 ((y : Nat) : Int)))]) 6 13, setM M [(0, .row tyStr (mkK_l_markStringS a m y) 0 0 none)]), fun y => (y ≤ List.length a), fun y => (List.length a - y)⟩
  | _, _, _ => ⟨Unit, fun _ => ([], []), fun _ => False, fun _ => 0⟩
theorem m_l_markStringS (a : List ByteArray) (m : Int) (hpre : mkP_l_markStringS a m) : MCalls Tryz.prog 75 (argsM 0 [(.q false (.list tyStr)), (.a (.v tyInt))] (a, m, ())) (preM 0 [(.q false (.list tyStr)), (.a (.v tyInt))] (a, m, ())) (postM 0 [(.q false (.list tyStr)), (.a (.v tyInt))] (mkF_l_markStringS a m, m, ()) ++ []) (inpM 0 [(.q false (.list tyStr)), (.a (.v tyInt))]) (.c (.int .i64 (mkR_l_markStringS a m))) := by
  refine mcalls_of (T := ⟨[e_l_markText], [], [], [], none, fun _ => [], 1, [0], []⟩) (L := (L_l_markStringS a m)) Tryz.func75 rfl rfl rfl (by kernel_rfl) (fun hwf hwm => ?_)
  refine Eq.mpr (β := (T2 ((∃ q : Nat, (q ≤ List.length a) ∧ ((lxs [.c (.row 0 0)] (leV (.c (.int .i64 m)) (.c (.int .i64 (m + ((cntL (List.take q a) : Nat) : Int)))) ∧ lxs [.tp [], .tp [], .c (.int .i64 0)] (leV (.c (.int .i64 0)) (.c (.int .i64 ((q : Nat) : Int))) ∧ TN 13 (lxs [.tp []] True)))) ∧ (leB (.row tyStr a 0 0 none) (.row tyStr (mkK_l_markStringS a m q) 0 0 none) ∧ True) ∧ true = true)) ∧ ∀ y0 : Nat, (y0 ≤ List.length a) → (T4 (bif (ltI ((y0 : Nat) : Int) ((List.length (mkK_l_markStringS a m y0) : Nat) : Int)) then (T3 ((markP (m + ((cntL (List.take y0 a) : Nat) : Int)) ∧ true = true) ∧ (((1 : Nat) = 1 ∧ (0 : Int) ≤ ((y0 : Nat) : Int) ∧ (((y0 : Nat) : Int) : Int) < ((List.length (mkK_l_markStringS a m y0) : Nat) : Int)) ∧ (True ∧ ∀ r1 : List ByteArray, r1 = (List.set (mkK_l_markStringS a m y0) (Int.toNat ((y0 : Nat) : Int)) (markT (m + ((cntL (List.take y0 a) : Nat) : Int)))) → (T6 (∃ y0' : Nat, (y0' ≤ List.length a) ∧ (List.length a - y0') < (List.length a - y0) ∧ ((lxs [.c (.row 0 0)] (leV (.c (.int .i64 (IntKind.wrap .i64 ((m + ((cntL (List.take y0 a) : Nat) : Int)) + 1)))) (.c (.int .i64 (m + ((cntL (List.take y0' a) : Nat) : Int)))) ∧ lxs [.tp [], .tp [], .c (.int .i64 0)] (leV (.c (.int .i64 (IntKind.wrap .i64 (((y0 : Nat) : Int) + 1)))) (.c (.int .i64 ((y0' : Nat) : Int))) ∧ TN 13 (lxs [.tp []] True)))) ∧ (leB (.row tyStr r1 0 0 none) (.row tyStr (mkK_l_markStringS a m y0') 0 0 none) ∧ True) ∧ true = true))))))) else (T2 (((((mkK_l_markStringS a m y0) = (mkF_l_markStringS a m)) ∧ True) ∧ (true = true ∧ leC (.int .i64 (m + ((cntL (List.take y0 a) : Nat) : Int))) (.int .i64 (mkR_l_markStringS a m)))) ∧ true = true))))))) (by kernel_rfl) ?_
  unfold T2 T3 T4 T6
  obtain ⟨hm0, hm1⟩ := hpre
  have hlm : a.length ≤ maxLen := hwm.1.1
  unfold maxLen at hlm
  simp only [SIA, eq_self]
  refine ⟨⟨0, Nat.zero_le _, ⟨by simp [cntL], rfl⟩, Eq.mpr (leB_row (t := tyStr)) (mkTo_zero a m).symm⟩, fun k hk => ⟨fun hlt => ?_, fun hge => ?_⟩⟩
  · have l0 : (mkK_l_markStringS a m k).length = a.length := mkTo_len a m k
    have hlt : k < a.length := by omega
    have hg : a[k]? = some (nth_String a k) := nth_getElem? (t := tyStr) hlt
    have hc : cntL (List.take (k + 1) a) = cntL (List.take k a) + (1) := cntL_snoc hg
    have hcl : cntL (List.take (k + 1) a) ≤ cntL a := cntL_le a (k + 1)
    have hg0 : (mkK_l_markStringS a m k)[k]? = some (nth_String a k) := mkTo_get hg
    have hk0 : k < (mkK_l_markStringS a m k).length := by omega
    have e0 : nth_String (mkK_l_markStringS a m k) k = nth_String a k := nth_of_get (t := tyStr) hg0
    try simp (disch := omega) only [wrapA, wrapA, mkR_l_markStringS]
    repeat (refine ⟨by first | omega | exact ⟨by omega, by omega⟩ | exact ⟨by omega, by omega, by omega⟩, ?_⟩)
    intro r1 h1
    have l1 : r1.length = a.length := by rw [h1, List.length_set]; exact l0
    try rw [e0] at h1
    try dsimp only at h1
    have e1 : nth_String r1 k = _ := (congrArg (fun r => nth_String r k) h1).trans (nth_set_self (t := tyStr) hk0)
    try rw [e1]
    try simp (disch := omega) only [wrapA, wrapA, mkR_l_markStringS]
    refine ⟨k + 1, hlt, by clear e1 h1 l1 r1; omega, ⟨by clear e1 h1 l1 r1; first | omega | (simp (disch := omega) only [wrapA, wrapA, mkR_l_markStringS]; omega), by clear e1 h1 l1 r1; first | omega | exact wrapN (by unfold maxLen; omega)⟩, Eq.mpr (leB_row (t := tyStr)) (h1.trans (mkTo_set hg ?_))⟩
    first
      | (with_reducible rfl)
      | (refine Eq.trans ?_ (mrkX_Session _ _ (by omega)).symm; with_reducible rfl)
      | (repeat' (refine Prod.ext ?_ ?_)
         all_goals first
           | (with_reducible rfl)
           | (simp only [GXA]; first | done | omega | (congr 1; done) | (congr 1; omega) | (rw [mark_bool (by omega), decide_eq_decide]; omega))
           | rfl)
  · have l0 : (mkK_l_markStringS a m k).length = a.length := mkTo_len a m k
    obtain rfl : k = a.length := by omega
    exact ⟨mkTo_end a m, by rw [List.take_length]⟩
def e_l_markStringS : MEntry Tryz.prog := ⟨75, [(.q false (.list tyStr)), (.a (.v tyInt))], fun x => mkP_l_markStringS x.1 x.2.1, fun x => (mkF_l_markStringS x.1 x.2.1, x.2.1, ()), fun x => .c (.int .i64 (mkR_l_markStringS x.1 x.2.1)), fun _ => [], fun x hx => m_l_markStringS x.1 x.2.1 hx, Tryz.call75⟩
abbrev mkR_l_markScopeS (a : List GScope) (m : Int) : Int := m + ((cntL a : Nat) : Int)
abbrev mkF_l_markScopeS (a : List GScope) (m : Int) : List GScope := markL a m
abbrev mkK_l_markScopeS (a : List GScope) (m : Int) (k : Nat) : List GScope := mkTo a m k
abbrev mkP_l_markScopeS (a : List GScope) (m : Int) : Prop := 0 ≤ m ∧ m + cntL a ≤ 4611686018427387904
def L_l_markScopeS (a : List GScope) (m : Int) : Nat → List AV → Mem → LoopA
  | 2, tm, M => ⟨Nat, fun y => (anyR (setA tm [(1, .c (.int .i64 (m + ((cntL (List.take y a) : Nat) : Int)))), (5, .c (.int .i64 ((y : Nat) : Int)))]) 6 27, setM M [(0, .row tyScope (mkK_l_markScopeS a m y) 0 0 none)]), fun y => (y ≤ List.length a), fun y => (List.length a - y)⟩
  | _, _, _ => ⟨Unit, fun _ => ([], []), fun _ => False, fun _ => 0⟩
theorem m_l_markScopeS (a : List GScope) (m : Int) (hpre : mkP_l_markScopeS a m) : MCalls Tryz.prog 44 (argsM 0 [(.q false (.list tyScope)), (.a (.v tyInt))] (a, m, ())) (preM 0 [(.q false (.list tyScope)), (.a (.v tyInt))] (a, m, ())) (postM 0 [(.q false (.list tyScope)), (.a (.v tyInt))] (mkF_l_markScopeS a m, m, ()) ++ []) (inpM 0 [(.q false (.list tyScope)), (.a (.v tyInt))]) (.c (.int .i64 (mkR_l_markScopeS a m))) := by
  refine mcalls_of (T := ⟨[], [], [], [e_l_markStringS], none, fun _ => [], 1, [0], []⟩) (L := (L_l_markScopeS a m)) Tryz.func44 rfl rfl rfl (by kernel_rfl) (fun hwf hwm => ?_)
  refine Eq.mpr (β := (T2 ((∃ q : Nat, (q ≤ List.length a) ∧ ((lxs [.c (.row 0 0)] (leV (.c (.int .i64 m)) (.c (.int .i64 (m + ((cntL (List.take q a) : Nat) : Int)))) ∧ lxs [.tp [], .tp [], .c (.int .i64 0)] (leV (.c (.int .i64 0)) (.c (.int .i64 ((q : Nat) : Int))) ∧ TN 27 (lxs [.tp []] True)))) ∧ (leB (.row tyScope a 0 0 none) (.row tyScope (mkK_l_markScopeS a m q) 0 0 none) ∧ True) ∧ true = true)) ∧ ∀ y0 : Nat, (y0 ≤ List.length a) → (T4 (bif (ltI ((y0 : Nat) : Int) ((List.length (mkK_l_markScopeS a m y0) : Nat) : Int)) then (T3 (((3 : Nat) = 3 ∧ (0 : Int) ≤ ((y0 : Nat) : Int) ∧ (((y0 : Nat) : Int) : Int) < ((List.length (mkK_l_markScopeS a m y0) : Nat) : Int)) ∧ (T2 (∀ r1 : List GScope, r1 = (List.set (mkK_l_markScopeS a m y0) (Int.toNat ((y0 : Nat) : Int)) ((m + ((cntL (List.take y0 a) : Nat) : Int)), (nth_Scope (mkK_l_markScopeS a m y0) (Int.toNat ((y0 : Nat) : Int))).2)) → (T5 (((3 : Nat) = 3 ∧ (0 : Int) ≤ ((y0 : Nat) : Int) ∧ (((y0 : Nat) : Int) : Int) < ((List.length r1 : Nat) : Int)) ∧ (T3 (((mkP_l_markStringS (nth_Scope r1 (Int.toNat ((y0 : Nat) : Int))).2.1 (IntKind.wrap .i64 ((m + ((cntL (List.take y0 a) : Nat) : Int)) + 1)) ∧ (((nth_Scope r1 (Int.toNat ((y0 : Nat) : Int))).2.1 = (nth_Scope r1 (Int.toNat ((y0 : Nat) : Int))).2.1) ∧ True)) ∧ true = true) ∧ ∀ r2 : List GScope, r2 = (List.set r1 (Int.toNat ((y0 : Nat) : Int)) ((nth_Scope r1 (Int.toNat ((y0 : Nat) : Int))).1, (mkF_l_markStringS (nth_Scope r1 (Int.toNat ((y0 : Nat) : Int))).2.1 (IntKind.wrap .i64 ((m + ((cntL (List.take y0 a) : Nat) : Int)) + 1)), (nth_Scope r1 (Int.toNat ((y0 : Nat) : Int))).2.2))) → (T4 (((3 : Nat) = 3 ∧ (0 : Int) ≤ ((y0 : Nat) : Int) ∧ (((y0 : Nat) : Int) : Int) < ((List.length r2 : Nat) : Int)) ∧ (T2 (∀ r3 : List GScope, r3 = (List.set r2 (Int.toNat ((y0 : Nat) : Int)) ((nth_Scope r2 (Int.toNat ((y0 : Nat) : Int))).1, ((nth_Scope r2 (Int.toNat ((y0 : Nat) : Int))).2.1, mkR_l_markStringS (nth_Scope r1 (Int.toNat ((y0 : Nat) : Int))).2.1 (IntKind.wrap .i64 ((m + ((cntL (List.take y0 a) : Nat) : Int)) + 1))))) → (T6 (∃ y0' : Nat, (y0' ≤ List.length a) ∧ (List.length a - y0') < (List.length a - y0) ∧ ((lxs [.c (.row 0 0)] (leV (.c (.int .i64 (IntKind.wrap .i64 (mkR_l_markStringS (nth_Scope r1 (Int.toNat ((y0 : Nat) : Int))).2.1 (IntKind.wrap .i64 ((m + ((cntL (List.take y0 a) : Nat) : Int)) + 1)) + 1)))) (.c (.int .i64 (m + ((cntL (List.take y0' a) : Nat) : Int)))) ∧ lxs [.tp [], .tp [], .c (.int .i64 0)] (leV (.c (.int .i64 (IntKind.wrap .i64 (((y0 : Nat) : Int) + 1)))) (.c (.int .i64 ((y0' : Nat) : Int))) ∧ TN 27 (lxs [.tp []] True)))) ∧ (leB (.row tyScope r3 0 0 none) (.row tyScope (mkK_l_markScopeS a m y0') 0 0 none) ∧ True) ∧ true = true))))))))))))))) else (T2 (((((mkK_l_markScopeS a m y0) = (mkF_l_markScopeS a m)) ∧ True) ∧ (true = true ∧ leC (.int .i64 (m + ((cntL (List.take y0 a) : Nat) : Int))) (.int .i64 (mkR_l_markScopeS a m)))) ∧ true = true))))))) (by kernel_rfl) ?_
  unfold T2 T3 T4 T5 T6
  obtain ⟨hm0, hm1⟩ := hpre
  have hlm : a.length ≤ maxLen := hwm.1.1
  unfold maxLen at hlm
  simp only [SIA, eq_self]
  refine ⟨⟨0, Nat.zero_le _, ⟨by simp [cntL], rfl⟩, Eq.mpr (leB_row (t := tyScope)) (mkTo_zero a m).symm⟩, fun k hk => ⟨fun hlt => ?_, fun hge => ?_⟩⟩
  · have l0 : (mkK_l_markScopeS a m k).length = a.length := mkTo_len a m k
    have hlt : k < a.length := by omega
    have hg : a[k]? = some (nth_Scope a k) := nth_getElem? (t := tyScope) hlt
    have hc : cntL (List.take (k + 1) a) = cntL (List.take k a) + (1 + (cntL (nth_Scope a k).2.1 + (1))) := cntL_snoc hg
    have hcl : cntL (List.take (k + 1) a) ≤ cntL a := cntL_le a (k + 1)
    have hg0 : (mkK_l_markScopeS a m k)[k]? = some (nth_Scope a k) := mkTo_get hg
    have hk0 : k < (mkK_l_markScopeS a m k).length := by omega
    have e0 : nth_Scope (mkK_l_markScopeS a m k) k = nth_Scope a k := nth_of_get (t := tyScope) hg0
    try simp (disch := omega) only [wrapA, wrapA, mkR_l_markStringS, mkR_l_markScopeS]
    repeat (refine ⟨by first | omega | exact ⟨by omega, by omega⟩ | exact ⟨by omega, by omega, by omega⟩, ?_⟩)
    intro r1 h1
    have l1 : r1.length = a.length := by rw [h1, List.length_set]; exact l0
    try rw [e0] at h1
    try dsimp only at h1
    have e1 : nth_Scope r1 k = _ := (congrArg (fun r => nth_Scope r k) h1).trans (nth_set_self (t := tyScope) hk0)
    try rw [e1]
    try simp (disch := omega) only [wrapA, wrapA, mkR_l_markStringS, mkR_l_markScopeS]
    repeat (refine ⟨by first | omega | exact ⟨by omega, by omega⟩ | exact ⟨by omega, by omega, by omega⟩, ?_⟩)
    intro r2 h2
    have l2 : r2.length = a.length := by rw [h2, List.length_set]; exact l1
    try rw [e1] at h2
    try dsimp only at h2
    rw [h1, List.set_set] at h2
    have e2 : nth_Scope r2 k = _ := (congrArg (fun r => nth_Scope r k) h2).trans (nth_set_self (t := tyScope) hk0)
    try rw [e2]
    try simp (disch := omega) only [wrapA, wrapA, mkR_l_markStringS, mkR_l_markScopeS]
    repeat (refine ⟨by first | omega | exact ⟨by omega, by omega⟩ | exact ⟨by omega, by omega, by omega⟩, ?_⟩)
    intro r3 h3
    have l3 : r3.length = a.length := by rw [h3, List.length_set]; exact l2
    try rw [e2] at h3
    try dsimp only at h3
    rw [h2, List.set_set] at h3
    have e3 : nth_Scope r3 k = _ := (congrArg (fun r => nth_Scope r k) h3).trans (nth_set_self (t := tyScope) hk0)
    try rw [e3]
    try simp (disch := omega) only [wrapA, wrapA, mkR_l_markStringS, mkR_l_markScopeS]
    refine ⟨k + 1, hlt, by clear e1 h1 l1 r1 e2 h2 l2 r2 e3 h3 l3 r3; omega, ⟨by clear e1 h1 l1 r1 e2 h2 l2 r2 e3 h3 l3 r3; first | omega | (simp (disch := omega) only [wrapA, wrapA, mkR_l_markStringS, mkR_l_markScopeS]; omega), by clear e1 h1 l1 r1 e2 h2 l2 r2 e3 h3 l3 r3; first | omega | exact wrapN (by unfold maxLen; omega)⟩, Eq.mpr (leB_row (t := tyScope)) (h3.trans (mkTo_set hg ?_))⟩
    first
      | (with_reducible rfl)
      | (refine Eq.trans ?_ (mrkX_Session _ _ (by omega)).symm; with_reducible rfl)
      | (repeat' (refine Prod.ext ?_ ?_)
         all_goals first
           | (with_reducible rfl)
           | (simp only [GXA]; first | done | omega | (congr 1; done) | (congr 1; omega) | (rw [mark_bool (by omega), decide_eq_decide]; omega))
           | rfl)
  · have l0 : (mkK_l_markScopeS a m k).length = a.length := mkTo_len a m k
    obtain rfl : k = a.length := by omega
    exact ⟨mkTo_end a m, by rw [List.take_length]⟩
def e_l_markScopeS : MEntry Tryz.prog := ⟨44, [(.q false (.list tyScope)), (.a (.v tyInt))], fun x => mkP_l_markScopeS x.1 x.2.1, fun x => (mkF_l_markScopeS x.1 x.2.1, x.2.1, ()), fun x => .c (.int .i64 (mkR_l_markScopeS x.1 x.2.1)), fun _ => [], fun x hx => m_l_markScopeS x.1 x.2.1 hx, Tryz.call44⟩
abbrev mkR_l_markFilter (a : GFilter) (m : Int) : Int := m + ((cntI a : Nat) : Int)
abbrev mkF_l_markFilter (a : GFilter) (m : Int) : GFilter := mrkI a m
abbrev mkP_l_markFilter (a : GFilter) (m : Int) : Prop := 0 ≤ m ∧ m + cntI a ≤ 4611686018427387904
theorem m_l_markFilter (a : GFilter) (m : Int) (hpre : mkP_l_markFilter a m) : MCalls Tryz.prog 26 (argsM 0 [(.q true tyFilter), (.a (.v tyInt))] (a, m, ())) (preM 0 [(.q true tyFilter), (.a (.v tyInt))] (a, m, ())) (postM 0 [(.q true tyFilter), (.a (.v tyInt))] (mkF_l_markFilter a m, m, ()) ++ []) (inpM 0 [(.q true tyFilter), (.a (.v tyInt))]) (.c (.int .i64 (mkR_l_markFilter a m))) := by
  refine mcalls_of (T := ⟨[], [], [], [e_l_markScopeS], none, fun _ => [], 1, [0], []⟩) (L := L0) Tryz.func26 rfl rfl rfl (by kernel_rfl) (fun hwf hwm => ?_)
  refine Eq.mpr (β := (True ∧ (True ∧ (True ∧ (True ∧ (True ∧ (((mkP_l_markScopeS a.2 m ∧ ((a.2 = a.2) ∧ True)) ∧ true = true) ∧ ∀ r0 : List GScope, r0 = mkF_l_markScopeS a.2 m → (True ∧ (True ∧ (True ∧ ((((r0 = (mkF_l_markFilter a m).2) ∧ True) ∧ (true = true ∧ leC (.int .i64 (mkR_l_markScopeS a.2 m)) (.int .i64 (mkR_l_markFilter a m)))) ∧ true = true))))))))))) (by kernel_rfl) ?_
  obtain ⟨hm0, hm1⟩ := hpre
  have hc0 : cntI a = 0 + (cntL a.2) := rfl
  simp only [SIA, eq_self]
  simp only [wrapA, mkR_l_markStringS, mkR_l_markScopeS, mkR_l_markFilter, mkF_l_markStringS, mkF_l_markScopeS, mkF_l_markFilter]
  repeat' (first | apply And.intro | intro _)
  all_goals first
    | trivial
    | omega
    | (subst_vars; first | rfl | omega | (simp only [GXA]; first | done | omega | (congr 1; omega)))
def e_l_markFilter : MEntry Tryz.prog := ⟨26, [(.q true tyFilter), (.a (.v tyInt))], fun x => mkP_l_markFilter x.1 x.2.1, fun x => (mkF_l_markFilter x.1 x.2.1, x.2.1, ()), fun x => .c (.int .i64 (mkR_l_markFilter x.1 x.2.1)), fun _ => [], fun x hx => m_l_markFilter x.1 x.2.1 hx, Tryz.call26⟩
abbrev mkR_l_markSeenS (a : List GSpan) (m : Int) : Int := m + ((cntL a : Nat) : Int)
abbrev mkF_l_markSeenS (a : List GSpan) (m : Int) : List GSpan := markL a m
abbrev mkK_l_markSeenS (a : List GSpan) (m : Int) (k : Nat) : List GSpan := mkTo a m k
abbrev mkP_l_markSeenS (a : List GSpan) (m : Int) : Prop := 0 ≤ m ∧ m + cntL a ≤ 4611686018427387904
def L_l_markSeenS (a : List GSpan) (m : Int) : Nat → List AV → Mem → LoopA
  | 2, tm, M => ⟨Nat, fun y => (anyR (setA tm [(1, .c (.int .i64 (m + ((cntL (List.take y a) : Nat) : Int)))), (5, .c (.int .i64 ((y : Nat) : Int)))]) 6 20, setM M [(0, .row tySpan (mkK_l_markSeenS a m y) 0 0 none)]), fun y => (y ≤ List.length a), fun y => (List.length a - y)⟩
  | _, _, _ => ⟨Unit, fun _ => ([], []), fun _ => False, fun _ => 0⟩
theorem m_l_markSeenS (a : List GSpan) (m : Int) (hpre : mkP_l_markSeenS a m) : MCalls Tryz.prog 43 (argsM 0 [(.q false (.list tySpan)), (.a (.v tyInt))] (a, m, ())) (preM 0 [(.q false (.list tySpan)), (.a (.v tyInt))] (a, m, ())) (postM 0 [(.q false (.list tySpan)), (.a (.v tyInt))] (mkF_l_markSeenS a m, m, ()) ++ []) (inpM 0 [(.q false (.list tySpan)), (.a (.v tyInt))]) (.c (.int .i64 (mkR_l_markSeenS a m))) := by
  refine mcalls_of (T := ⟨[], [], [], [], none, fun _ => [], 1, [0], []⟩) (L := (L_l_markSeenS a m)) Tryz.func43 rfl rfl rfl (by kernel_rfl) (fun hwf hwm => ?_)
  refine Eq.mpr (β := (T2 ((∃ q : Nat, (q ≤ List.length a) ∧ ((lxs [.c (.row 0 0)] (leV (.c (.int .i64 m)) (.c (.int .i64 (m + ((cntL (List.take q a) : Nat) : Int)))) ∧ lxs [.tp [], .tp [], .c (.int .i64 0)] (leV (.c (.int .i64 0)) (.c (.int .i64 ((q : Nat) : Int))) ∧ TN 20 (lxs [.tp []] True)))) ∧ (leB (.row tySpan a 0 0 none) (.row tySpan (mkK_l_markSeenS a m q) 0 0 none) ∧ True) ∧ true = true)) ∧ ∀ y0 : Nat, (y0 ≤ List.length a) → (T4 (bif (ltI ((y0 : Nat) : Int) ((List.length (mkK_l_markSeenS a m y0) : Nat) : Int)) then (T3 (((2 : Nat) = 2 ∧ (0 : Int) ≤ ((y0 : Nat) : Int) ∧ (((y0 : Nat) : Int) : Int) < ((List.length (mkK_l_markSeenS a m y0) : Nat) : Int)) ∧ (T2 (∀ r1 : List GSpan, r1 = (List.set (mkK_l_markSeenS a m y0) (Int.toNat ((y0 : Nat) : Int)) ((m + ((cntL (List.take y0 a) : Nat) : Int)), (nth_Span (mkK_l_markSeenS a m y0) (Int.toNat ((y0 : Nat) : Int))).2)) → (T6 (((2 : Nat) = 2 ∧ (0 : Int) ≤ ((y0 : Nat) : Int) ∧ (((y0 : Nat) : Int) : Int) < ((List.length r1 : Nat) : Int)) ∧ (T2 (∀ r2 : List GSpan, r2 = (List.set r1 (Int.toNat ((y0 : Nat) : Int)) ((nth_Span r1 (Int.toNat ((y0 : Nat) : Int))).1, (IntKind.wrap .i64 ((m + ((cntL (List.take y0 a) : Nat) : Int)) + 1)))) → (T6 (∃ y0' : Nat, (y0' ≤ List.length a) ∧ (List.length a - y0') < (List.length a - y0) ∧ ((lxs [.c (.row 0 0)] (leV (.c (.int .i64 (IntKind.wrap .i64 ((IntKind.wrap .i64 ((m + ((cntL (List.take y0 a) : Nat) : Int)) + 1)) + 1)))) (.c (.int .i64 (m + ((cntL (List.take y0' a) : Nat) : Int)))) ∧ lxs [.tp [], .tp [], .c (.int .i64 0)] (leV (.c (.int .i64 (IntKind.wrap .i64 (((y0 : Nat) : Int) + 1)))) (.c (.int .i64 ((y0' : Nat) : Int))) ∧ TN 20 (lxs [.tp []] True)))) ∧ (leB (.row tySpan r2 0 0 none) (.row tySpan (mkK_l_markSeenS a m y0') 0 0 none) ∧ True) ∧ true = true))))))))))) else (T2 (((((mkK_l_markSeenS a m y0) = (mkF_l_markSeenS a m)) ∧ True) ∧ (true = true ∧ leC (.int .i64 (m + ((cntL (List.take y0 a) : Nat) : Int))) (.int .i64 (mkR_l_markSeenS a m)))) ∧ true = true))))))) (by kernel_rfl) ?_
  unfold T2 T3 T4 T6
  obtain ⟨hm0, hm1⟩ := hpre
  have hlm : a.length ≤ maxLen := hwm.1.1
  unfold maxLen at hlm
  simp only [SIA, eq_self]
  refine ⟨⟨0, Nat.zero_le _, ⟨by simp [cntL], rfl⟩, Eq.mpr (leB_row (t := tySpan)) (mkTo_zero a m).symm⟩, fun k hk => ⟨fun hlt => ?_, fun hge => ?_⟩⟩
  · have l0 : (mkK_l_markSeenS a m k).length = a.length := mkTo_len a m k
    have hlt : k < a.length := by omega
    have hg : a[k]? = some (nth_Span a k) := nth_getElem? (t := tySpan) hlt
    have hc : cntL (List.take (k + 1) a) = cntL (List.take k a) + (1 + (1)) := cntL_snoc hg
    have hcl : cntL (List.take (k + 1) a) ≤ cntL a := cntL_le a (k + 1)
    have hg0 : (mkK_l_markSeenS a m k)[k]? = some (nth_Span a k) := mkTo_get hg
    have hk0 : k < (mkK_l_markSeenS a m k).length := by omega
    have e0 : nth_Span (mkK_l_markSeenS a m k) k = nth_Span a k := nth_of_get (t := tySpan) hg0
    try simp (disch := omega) only [wrapA, wrapA, mkR_l_markStringS, mkR_l_markScopeS, mkR_l_markFilter, mkR_l_markSeenS]
    repeat (refine ⟨by first | omega | exact ⟨by omega, by omega⟩ | exact ⟨by omega, by omega, by omega⟩, ?_⟩)
    intro r1 h1
    have l1 : r1.length = a.length := by rw [h1, List.length_set]; exact l0
    try rw [e0] at h1
    try dsimp only at h1
    have e1 : nth_Span r1 k = _ := (congrArg (fun r => nth_Span r k) h1).trans (nth_set_self (t := tySpan) hk0)
    try rw [e1]
    try simp (disch := omega) only [wrapA, wrapA, mkR_l_markStringS, mkR_l_markScopeS, mkR_l_markFilter, mkR_l_markSeenS]
    repeat (refine ⟨by first | omega | exact ⟨by omega, by omega⟩ | exact ⟨by omega, by omega, by omega⟩, ?_⟩)
    intro r2 h2
    have l2 : r2.length = a.length := by rw [h2, List.length_set]; exact l1
    try rw [e1] at h2
    try dsimp only at h2
    rw [h1, List.set_set] at h2
    have e2 : nth_Span r2 k = _ := (congrArg (fun r => nth_Span r k) h2).trans (nth_set_self (t := tySpan) hk0)
    try rw [e2]
    try simp (disch := omega) only [wrapA, wrapA, mkR_l_markStringS, mkR_l_markScopeS, mkR_l_markFilter, mkR_l_markSeenS]
    refine ⟨k + 1, hlt, by clear e1 h1 l1 r1 e2 h2 l2 r2; omega, ⟨by clear e1 h1 l1 r1 e2 h2 l2 r2; first | omega | (simp (disch := omega) only [wrapA, wrapA, mkR_l_markStringS, mkR_l_markScopeS, mkR_l_markFilter, mkR_l_markSeenS]; omega), by clear e1 h1 l1 r1 e2 h2 l2 r2; first | omega | exact wrapN (by unfold maxLen; omega)⟩, Eq.mpr (leB_row (t := tySpan)) (h2.trans (mkTo_set hg ?_))⟩
    first
      | (with_reducible rfl)
      | (refine Eq.trans ?_ (mrkX_Session _ _ (by omega)).symm; with_reducible rfl)
      | (repeat' (refine Prod.ext ?_ ?_)
         all_goals first
           | (with_reducible rfl)
           | (simp only [GXA]; first | done | omega | (congr 1; done) | (congr 1; omega) | (rw [mark_bool (by omega), decide_eq_decide]; omega))
           | rfl)
  · have l0 : (mkK_l_markSeenS a m k).length = a.length := mkTo_len a m k
    obtain rfl : k = a.length := by omega
    exact ⟨mkTo_end a m, by rw [List.take_length]⟩
def e_l_markSeenS : MEntry Tryz.prog := ⟨43, [(.q false (.list tySpan)), (.a (.v tyInt))], fun x => mkP_l_markSeenS x.1 x.2.1, fun x => (mkF_l_markSeenS x.1 x.2.1, x.2.1, ()), fun x => .c (.int .i64 (mkR_l_markSeenS x.1 x.2.1)), fun _ => [], fun x hx => m_l_markSeenS x.1 x.2.1 hx, Tryz.call43⟩
abbrev mkR_l_markView (a : GView) (m : Int) : Int := m + ((cntI a : Nat) : Int)
abbrev mkF_l_markView (a : GView) (m : Int) : GView := mrkI a m
abbrev mkP_l_markView (a : GView) (m : Int) : Prop := 0 ≤ m ∧ m + cntI a ≤ 4611686018427387904
theorem m_l_markView (a : List GSpan) (m : Int) (hpre : mkP_l_markView a m) : MCalls Tryz.prog 25 (argsM 0 [(.q true (.list tySpan)), (.a (.v tyInt))] (a, m, ())) (preM 0 [(.q true (.list tySpan)), (.a (.v tyInt))] (a, m, ())) (postM 0 [(.q true (.list tySpan)), (.a (.v tyInt))] (mkF_l_markView a m, m, ()) ++ []) (inpM 0 [(.q true (.list tySpan)), (.a (.v tyInt))]) (.c (.int .i64 (mkR_l_markView a m))) := by
  refine mcalls_of (T := ⟨[], [], [], [e_l_markSeenS], none, fun _ => [], 1, [0], []⟩) (L := L0) Tryz.func25 rfl rfl rfl (by kernel_rfl) (fun hwf hwm => ?_)
  refine Eq.mpr (β := (True ∧ (True ∧ (True ∧ (True ∧ (True ∧ (((mkP_l_markSeenS a m ∧ ((a = a) ∧ True)) ∧ true = true) ∧ ∀ r0 : List GSpan, r0 = mkF_l_markSeenS a m → (True ∧ (True ∧ (True ∧ ((((r0 = (mkF_l_markView a m)) ∧ True) ∧ (true = true ∧ leC (.int .i64 (mkR_l_markSeenS a m)) (.int .i64 (mkR_l_markView a m)))) ∧ true = true))))))))))) (by kernel_rfl) ?_
  obtain ⟨hm0, hm1⟩ := hpre
  have hc0 : cntI a = cntL a := rfl
  simp only [SIA, eq_self]
  simp only [wrapA, mkR_l_markStringS, mkR_l_markScopeS, mkR_l_markFilter, mkR_l_markSeenS, mkR_l_markView, mkF_l_markStringS, mkF_l_markScopeS, mkF_l_markFilter, mkF_l_markSeenS, mkF_l_markView]
  repeat' (first | apply And.intro | intro _)
  all_goals first
    | trivial
    | omega
    | (subst_vars; first | rfl | omega | (simp only [GXA]; first | done | omega | (congr 1; omega)))
def e_l_markView : MEntry Tryz.prog := ⟨25, [(.q true (.list tySpan)), (.a (.v tyInt))], fun x => mkP_l_markView x.1 x.2.1, fun x => (mkF_l_markView x.1 x.2.1, x.2.1, ()), fun x => .c (.int .i64 (mkR_l_markView x.1 x.2.1)), fun _ => [], fun x hx => m_l_markView x.1 x.2.1 hx, Tryz.call25⟩
abbrev mkR_l_markNoteS (a : List GNote) (m : Int) : Int := m + ((cntL a : Nat) : Int)
abbrev mkF_l_markNoteS (a : List GNote) (m : Int) : List GNote := markL a m
abbrev mkK_l_markNoteS (a : List GNote) (m : Int) (k : Nat) : List GNote := mkTo a m k
abbrev mkP_l_markNoteS (a : List GNote) (m : Int) : Prop := 0 ≤ m ∧ m + cntL a ≤ 4611686018427387904
def L_l_markNoteS (a : List GNote) (m : Int) : Nat → List AV → Mem → LoopA
  | 2, tm, M => ⟨Nat, fun y => (anyR (setA tm [(1, .c (.int .i64 (m + ((cntL (List.take y a) : Nat) : Int)))), (5, .c (.int .i64 ((y : Nat) : Int)))]) 6 35, setM M [(0, .row tyNote (mkK_l_markNoteS a m y) 0 0 none)]), fun y => (y ≤ List.length a), fun y => (List.length a - y)⟩
  | _, _, _ => ⟨Unit, fun _ => ([], []), fun _ => False, fun _ => 0⟩
theorem m_l_markNoteS (a : List GNote) (m : Int) (hpre : mkP_l_markNoteS a m) : MCalls Tryz.prog 45 (argsM 0 [(.q false (.list tyNote)), (.a (.v tyInt))] (a, m, ())) (preM 0 [(.q false (.list tyNote)), (.a (.v tyInt))] (a, m, ())) (postM 0 [(.q false (.list tyNote)), (.a (.v tyInt))] (mkF_l_markNoteS a m, m, ()) ++ []) (inpM 0 [(.q false (.list tyNote)), (.a (.v tyInt))]) (.c (.int .i64 (mkR_l_markNoteS a m))) := by
  refine mcalls_of (T := ⟨[e_l_markText], [], [], [], none, fun _ => [], 1, [0], []⟩) (L := (L_l_markNoteS a m)) Tryz.func45 rfl rfl rfl (by kernel_rfl) (fun hwf hwm => ?_)
  refine Eq.mpr (β := (T2 ((∃ q : Nat, (q ≤ List.length a) ∧ ((lxs [.c (.row 0 0)] (leV (.c (.int .i64 m)) (.c (.int .i64 (m + ((cntL (List.take q a) : Nat) : Int)))) ∧ lxs [.tp [], .tp [], .c (.int .i64 0)] (leV (.c (.int .i64 0)) (.c (.int .i64 ((q : Nat) : Int))) ∧ TN 35 (lxs [.tp []] True)))) ∧ (leB (.row tyNote a 0 0 none) (.row tyNote (mkK_l_markNoteS a m q) 0 0 none) ∧ True) ∧ true = true)) ∧ ∀ y0 : Nat, (y0 ≤ List.length a) → (T4 (bif (ltI ((y0 : Nat) : Int) ((List.length (mkK_l_markNoteS a m y0) : Nat) : Int)) then (T3 (((4 : Nat) = 4 ∧ (0 : Int) ≤ ((y0 : Nat) : Int) ∧ (((y0 : Nat) : Int) : Int) < ((List.length (mkK_l_markNoteS a m y0) : Nat) : Int)) ∧ (T2 (∀ r1 : List GNote, r1 = (List.set (mkK_l_markNoteS a m y0) (Int.toNat ((y0 : Nat) : Int)) ((m + ((cntL (List.take y0 a) : Nat) : Int)), (nth_Note (mkK_l_markNoteS a m y0) (Int.toNat ((y0 : Nat) : Int))).2)) → (T6 (((4 : Nat) = 4 ∧ (0 : Int) ≤ ((y0 : Nat) : Int) ∧ (((y0 : Nat) : Int) : Int) < ((List.length r1 : Nat) : Int)) ∧ (T2 (∀ r2 : List GNote, r2 = (List.set r1 (Int.toNat ((y0 : Nat) : Int)) ((nth_Note r1 (Int.toNat ((y0 : Nat) : Int))).1, ((IntKind.wrap .i64 ((m + ((cntL (List.take y0 a) : Nat) : Int)) + 1)), (nth_Note r1 (Int.toNat ((y0 : Nat) : Int))).2.2))) → (T6 (((4 : Nat) = 4 ∧ (0 : Int) ≤ ((y0 : Nat) : Int) ∧ (((y0 : Nat) : Int) : Int) < ((List.length r2 : Nat) : Int)) ∧ (T2 (∀ r3 : List GNote, r3 = (List.set r2 (Int.toNat ((y0 : Nat) : Int)) ((nth_Note r2 (Int.toNat ((y0 : Nat) : Int))).1, ((nth_Note r2 (Int.toNat ((y0 : Nat) : Int))).2.1, ((IntKind.wrap .i64 ((IntKind.wrap .i64 ((m + ((cntL (List.take y0 a) : Nat) : Int)) + 1)) + 1)), (nth_Note r2 (Int.toNat ((y0 : Nat) : Int))).2.2.2)))) → (T6 ((markP (IntKind.wrap .i64 ((IntKind.wrap .i64 ((IntKind.wrap .i64 ((m + ((cntL (List.take y0 a) : Nat) : Int)) + 1)) + 1)) + 1)) ∧ true = true) ∧ (((4 : Nat) = 4 ∧ (0 : Int) ≤ ((y0 : Nat) : Int) ∧ (((y0 : Nat) : Int) : Int) < ((List.length r3 : Nat) : Int)) ∧ (T2 (∀ r4 : List GNote, r4 = (List.set r3 (Int.toNat ((y0 : Nat) : Int)) ((nth_Note r3 (Int.toNat ((y0 : Nat) : Int))).1, ((nth_Note r3 (Int.toNat ((y0 : Nat) : Int))).2.1, ((nth_Note r3 (Int.toNat ((y0 : Nat) : Int))).2.2.1, markT (IntKind.wrap .i64 ((IntKind.wrap .i64 ((IntKind.wrap .i64 ((m + ((cntL (List.take y0 a) : Nat) : Int)) + 1)) + 1)) + 1)))))) → (T6 (∃ y0' : Nat, (y0' ≤ List.length a) ∧ (List.length a - y0') < (List.length a - y0) ∧ ((lxs [.c (.row 0 0)] (leV (.c (.int .i64 (IntKind.wrap .i64 ((IntKind.wrap .i64 ((IntKind.wrap .i64 ((IntKind.wrap .i64 ((m + ((cntL (List.take y0 a) : Nat) : Int)) + 1)) + 1)) + 1)) + 1)))) (.c (.int .i64 (m + ((cntL (List.take y0' a) : Nat) : Int)))) ∧ lxs [.tp [], .tp [], .c (.int .i64 0)] (leV (.c (.int .i64 (IntKind.wrap .i64 (((y0 : Nat) : Int) + 1)))) (.c (.int .i64 ((y0' : Nat) : Int))) ∧ TN 35 (lxs [.tp []] True)))) ∧ (leB (.row tyNote r4 0 0 none) (.row tyNote (mkK_l_markNoteS a m y0') 0 0 none) ∧ True) ∧ true = true)))))))))))))))))))) else (T2 (((((mkK_l_markNoteS a m y0) = (mkF_l_markNoteS a m)) ∧ True) ∧ (true = true ∧ leC (.int .i64 (m + ((cntL (List.take y0 a) : Nat) : Int))) (.int .i64 (mkR_l_markNoteS a m)))) ∧ true = true))))))) (by kernel_rfl) ?_
  unfold T2 T3 T4 T6
  obtain ⟨hm0, hm1⟩ := hpre
  have hlm : a.length ≤ maxLen := hwm.1.1
  unfold maxLen at hlm
  simp only [SIA, eq_self]
  refine ⟨⟨0, Nat.zero_le _, ⟨by simp [cntL], rfl⟩, Eq.mpr (leB_row (t := tyNote)) (mkTo_zero a m).symm⟩, fun k hk => ⟨fun hlt => ?_, fun hge => ?_⟩⟩
  · have l0 : (mkK_l_markNoteS a m k).length = a.length := mkTo_len a m k
    have hlt : k < a.length := by omega
    have hg : a[k]? = some (nth_Note a k) := nth_getElem? (t := tyNote) hlt
    have hc : cntL (List.take (k + 1) a) = cntL (List.take k a) + (1 + (1 + (1 + (1)))) := cntL_snoc hg
    have hcl : cntL (List.take (k + 1) a) ≤ cntL a := cntL_le a (k + 1)
    have hg0 : (mkK_l_markNoteS a m k)[k]? = some (nth_Note a k) := mkTo_get hg
    have hk0 : k < (mkK_l_markNoteS a m k).length := by omega
    have e0 : nth_Note (mkK_l_markNoteS a m k) k = nth_Note a k := nth_of_get (t := tyNote) hg0
    try simp (disch := omega) only [wrapA, wrapA, mkR_l_markStringS, mkR_l_markScopeS, mkR_l_markFilter, mkR_l_markSeenS, mkR_l_markView, mkR_l_markNoteS]
    repeat (refine ⟨by first | omega | exact ⟨by omega, by omega⟩ | exact ⟨by omega, by omega, by omega⟩, ?_⟩)
    intro r1 h1
    have l1 : r1.length = a.length := by rw [h1, List.length_set]; exact l0
    try rw [e0] at h1
    try dsimp only at h1
    have e1 : nth_Note r1 k = _ := (congrArg (fun r => nth_Note r k) h1).trans (nth_set_self (t := tyNote) hk0)
    try rw [e1]
    try simp (disch := omega) only [wrapA, wrapA, mkR_l_markStringS, mkR_l_markScopeS, mkR_l_markFilter, mkR_l_markSeenS, mkR_l_markView, mkR_l_markNoteS]
    repeat (refine ⟨by first | omega | exact ⟨by omega, by omega⟩ | exact ⟨by omega, by omega, by omega⟩, ?_⟩)
    intro r2 h2
    have l2 : r2.length = a.length := by rw [h2, List.length_set]; exact l1
    try rw [e1] at h2
    try dsimp only at h2
    rw [h1, List.set_set] at h2
    have e2 : nth_Note r2 k = _ := (congrArg (fun r => nth_Note r k) h2).trans (nth_set_self (t := tyNote) hk0)
    try rw [e2]
    try simp (disch := omega) only [wrapA, wrapA, mkR_l_markStringS, mkR_l_markScopeS, mkR_l_markFilter, mkR_l_markSeenS, mkR_l_markView, mkR_l_markNoteS]
    repeat (refine ⟨by first | omega | exact ⟨by omega, by omega⟩ | exact ⟨by omega, by omega, by omega⟩, ?_⟩)
    intro r3 h3
    have l3 : r3.length = a.length := by rw [h3, List.length_set]; exact l2
    try rw [e2] at h3
    try dsimp only at h3
    rw [h2, List.set_set] at h3
    have e3 : nth_Note r3 k = _ := (congrArg (fun r => nth_Note r k) h3).trans (nth_set_self (t := tyNote) hk0)
    try rw [e3]
    try simp (disch := omega) only [wrapA, wrapA, mkR_l_markStringS, mkR_l_markScopeS, mkR_l_markFilter, mkR_l_markSeenS, mkR_l_markView, mkR_l_markNoteS]
    repeat (refine ⟨by first | omega | exact ⟨by omega, by omega⟩ | exact ⟨by omega, by omega, by omega⟩, ?_⟩)
    intro r4 h4
    have l4 : r4.length = a.length := by rw [h4, List.length_set]; exact l3
    try rw [e3] at h4
    try dsimp only at h4
    rw [h3, List.set_set] at h4
    have e4 : nth_Note r4 k = _ := (congrArg (fun r => nth_Note r k) h4).trans (nth_set_self (t := tyNote) hk0)
    try rw [e4]
    try simp (disch := omega) only [wrapA, wrapA, mkR_l_markStringS, mkR_l_markScopeS, mkR_l_markFilter, mkR_l_markSeenS, mkR_l_markView, mkR_l_markNoteS]
    refine ⟨k + 1, hlt, by clear e1 h1 l1 r1 e2 h2 l2 r2 e3 h3 l3 r3 e4 h4 l4 r4; omega, ⟨by clear e1 h1 l1 r1 e2 h2 l2 r2 e3 h3 l3 r3 e4 h4 l4 r4; first | omega | (simp (disch := omega) only [wrapA, wrapA, mkR_l_markStringS, mkR_l_markScopeS, mkR_l_markFilter, mkR_l_markSeenS, mkR_l_markView, mkR_l_markNoteS]; omega), by clear e1 h1 l1 r1 e2 h2 l2 r2 e3 h3 l3 r3 e4 h4 l4 r4; first | omega | exact wrapN (by unfold maxLen; omega)⟩, Eq.mpr (leB_row (t := tyNote)) (h4.trans (mkTo_set hg ?_))⟩
    first
      | (with_reducible rfl)
      | (refine Eq.trans ?_ (mrkX_Session _ _ (by omega)).symm; with_reducible rfl)
      | (repeat' (refine Prod.ext ?_ ?_)
         all_goals first
           | (with_reducible rfl)
           | (simp only [GXA]; first | done | omega | (congr 1; done) | (congr 1; omega) | (rw [mark_bool (by omega), decide_eq_decide]; omega))
           | rfl)
  · have l0 : (mkK_l_markNoteS a m k).length = a.length := mkTo_len a m k
    obtain rfl : k = a.length := by omega
    exact ⟨mkTo_end a m, by rw [List.take_length]⟩
def e_l_markNoteS : MEntry Tryz.prog := ⟨45, [(.q false (.list tyNote)), (.a (.v tyInt))], fun x => mkP_l_markNoteS x.1 x.2.1, fun x => (mkF_l_markNoteS x.1 x.2.1, x.2.1, ()), fun x => .c (.int .i64 (mkR_l_markNoteS x.1 x.2.1)), fun _ => [], fun x hx => m_l_markNoteS x.1 x.2.1 hx, Tryz.call45⟩
abbrev mkR_l_markQueue (a : GQueue) (m : Int) : Int := m + ((cntI a : Nat) : Int)
abbrev mkF_l_markQueue (a : GQueue) (m : Int) : GQueue := mrkI a m
abbrev mkP_l_markQueue (a : GQueue) (m : Int) : Prop := 0 ≤ m ∧ m + cntI a ≤ 4611686018427387904
theorem m_l_markQueue (a : GQueue) (m : Int) (hpre : mkP_l_markQueue a m) : MCalls Tryz.prog 27 (argsM 0 [(.q true tyQueue), (.a (.v tyInt))] (a, m, ())) (preM 0 [(.q true tyQueue), (.a (.v tyInt))] (a, m, ())) (postM 0 [(.q true tyQueue), (.a (.v tyInt))] (mkF_l_markQueue a m, m, ()) ++ []) (inpM 0 [(.q true tyQueue), (.a (.v tyInt))]) (.c (.int .i64 (mkR_l_markQueue a m))) := by
  refine mcalls_of (T := ⟨[], [], [], [e_l_markNoteS], none, fun _ => [], 1, [0], []⟩) (L := L0) Tryz.func27 rfl rfl rfl (by kernel_rfl) (fun hwf hwm => ?_)
  refine Eq.mpr (β := (True ∧ (True ∧ (True ∧ (True ∧ (True ∧ (((mkP_l_markNoteS a.1 m ∧ ((a.1 = a.1) ∧ True)) ∧ true = true) ∧ ∀ r0 : List GNote, r0 = mkF_l_markNoteS a.1 m → (True ∧ (True ∧ (True ∧ ((((r0 = (mkF_l_markQueue a m).1) ∧ True) ∧ (true = true ∧ leC (.int .i64 (mkR_l_markNoteS a.1 m)) (.int .i64 (mkR_l_markQueue a m)))) ∧ true = true))))))))))) (by kernel_rfl) ?_
  obtain ⟨hm0, hm1⟩ := hpre
  have hc0 : cntI a = cntL a.1 + (0 + (0)) := rfl
  simp only [SIA, eq_self]
  simp only [wrapA, mkR_l_markStringS, mkR_l_markScopeS, mkR_l_markFilter, mkR_l_markSeenS, mkR_l_markView, mkR_l_markNoteS, mkR_l_markQueue, mkF_l_markStringS, mkF_l_markScopeS, mkF_l_markFilter, mkF_l_markSeenS, mkF_l_markView, mkF_l_markNoteS, mkF_l_markQueue]
  repeat' (first | apply And.intro | intro _)
  all_goals first
    | trivial
    | omega
    | (subst_vars; first | rfl | omega | (simp only [GXA]; first | done | omega | (congr 1; omega)))
def e_l_markQueue : MEntry Tryz.prog := ⟨27, [(.q true tyQueue), (.a (.v tyInt))], fun x => mkP_l_markQueue x.1 x.2.1, fun x => (mkF_l_markQueue x.1 x.2.1, x.2.1, ()), fun x => .c (.int .i64 (mkR_l_markQueue x.1 x.2.1)), fun _ => [], fun x hx => m_l_markQueue x.1 x.2.1 hx, Tryz.call27⟩
abbrev mkR_l_markSession (a : GSession) (m : Int) : Int := m + ((cntI a : Nat) : Int)
abbrev mkF_l_markSession (a : GSession) (m : Int) : GSession := mrkI a m
abbrev mkP_l_markSession (a : GSession) (m : Int) : Prop := 0 ≤ m ∧ m + cntI a ≤ 4611686018427387904
theorem m_l_markSession (a : GSession) (m : Int) (hpre : mkP_l_markSession a m) : MCalls Tryz.prog 8 (argsM 0 [(.q true tySession), (.a (.v tyInt))] (a, m, ())) (preM 0 [(.q true tySession), (.a (.v tyInt))] (a, m, ())) (postM 0 [(.q true tySession), (.a (.v tyInt))] (mkF_l_markSession a m, m, ()) ++ []) (inpM 0 [(.q true tySession), (.a (.v tyInt))]) (.c (.int .i64 (mkR_l_markSession a m))) := by
  refine mcalls_of (T := ⟨[], [], [], [e_l_markView, e_l_markFilter, e_l_markQueue], none, fun _ => [], 3, [0, 1, 2], []⟩) (L := L0) Tryz.func8 rfl rfl rfl (by kernel_rfl) (fun hwf hwm => ?_)
  refine Eq.mpr (β := (T5 (((mkP_l_markView a.2.2.2.2.1 m ∧ ((((a.2.2.2.2.1 = a.2.2.2.2.1) ∧ True)) ∧ True)) ∧ true = true) ∧ ∀ r0 : List GSpan, r0 = mkF_l_markView a.2.2.2.2.1 m → (T4 (((mkP_l_markFilter a.2.2.2.2.2.1 (mkR_l_markView a.2.2.2.2.1 m) ∧ ((((true = true ∧ leC (.bool a.2.2.2.2.2.1.1) (.bool a.2.2.2.2.2.1.1)) ∧ (a.2.2.2.2.2.1.2 = a.2.2.2.2.2.1.2) ∧ True)) ∧ True)) ∧ true = true) ∧ ∀ r1 : List GScope, r1 = (mkF_l_markFilter a.2.2.2.2.2.1 (mkR_l_markView a.2.2.2.2.1 m)).2 → (T4 (((mkP_l_markQueue a.2.2.2.2.2.2.2.2.1 (mkR_l_markFilter a.2.2.2.2.2.1 (mkR_l_markView a.2.2.2.2.1 m)) ∧ ((((a.2.2.2.2.2.2.2.2.1.1 = a.2.2.2.2.2.2.2.2.1.1) ∧ (true = true ∧ leC (.bool a.2.2.2.2.2.2.2.2.1.2.1) (.bool a.2.2.2.2.2.2.2.2.1.2.1)) ∧ (true = true ∧ leC (.bool a.2.2.2.2.2.2.2.2.1.2.2) (.bool a.2.2.2.2.2.2.2.2.1.2.2)) ∧ True)) ∧ True)) ∧ true = true) ∧ ∀ r2 : List GNote, r2 = (mkF_l_markQueue a.2.2.2.2.2.2.2.2.1 (mkR_l_markFilter a.2.2.2.2.2.1 (mkR_l_markView a.2.2.2.2.1 m))).1 → (T3 ((((r0 = (mkF_l_markSession a m).2.2.2.2.1) ∧ (r1 = (mkF_l_markSession a m).2.2.2.2.2.1.2) ∧ (r2 = (mkF_l_markSession a m).2.2.2.2.2.2.2.2.1.1) ∧ True) ∧ (true = true ∧ leC (.int .i64 (mkR_l_markQueue a.2.2.2.2.2.2.2.2.1 (mkR_l_markFilter a.2.2.2.2.2.1 (mkR_l_markView a.2.2.2.2.1 m)))) (.int .i64 (mkR_l_markSession a m)))) ∧ true = true))))))))) (by kernel_rfl) ?_
  unfold T3 T4 T5
  obtain ⟨hm0, hm1⟩ := hpre
  have hc0 : cntI a = 0 + (0 + (0 + (0 + (cntL a.2.2.2.2.1 + (0 + (cntL a.2.2.2.2.2.1.2) + (0 + (0 + (cntL a.2.2.2.2.2.2.2.2.1.1 + (0 + (0)) + (0 + (0) + (0 + (0) + (0))))))))))) := rfl
  have hc1 : cntI a.2.2.2.2.1 = cntL a.2.2.2.2.1 := rfl
  have hc2 : cntI a.2.2.2.2.2.1 = 0 + (cntL a.2.2.2.2.2.1.2) := rfl
  have hc3 : cntI a.2.2.2.2.2.2.2.2.1 = cntL a.2.2.2.2.2.2.2.2.1.1 + (0 + (0)) := rfl
  simp only [SIA, eq_self]
  simp only [wrapA, mkR_l_markStringS, mkR_l_markScopeS, mkR_l_markFilter, mkR_l_markSeenS, mkR_l_markView, mkR_l_markNoteS, mkR_l_markQueue, mkR_l_markSession, mkF_l_markStringS, mkF_l_markScopeS, mkF_l_markFilter, mkF_l_markSeenS, mkF_l_markView, mkF_l_markNoteS, mkF_l_markQueue, mkF_l_markSession]
  repeat' (first | apply And.intro | intro _)
  all_goals first
    | trivial
    | omega
    | (subst_vars; first | rfl | omega | (simp only [GXA]; first | done | omega | (congr 1; omega)))
def e_l_markSession : MEntry Tryz.prog := ⟨8, [(.q true tySession), (.a (.v tyInt))], fun x => mkP_l_markSession x.1 x.2.1, fun x => (mkF_l_markSession x.1 x.2.1, x.2.1, ()), fun x => .c (.int .i64 (mkR_l_markSession x.1 x.2.1)), fun _ => [], fun x hx => m_l_markSession x.1 x.2.1 hx, Tryz.call8⟩
end Go.Proofs.YtklnpeckhbiloaaGreatDoor
