/-
  The reference's events.
  No condition but what the arguments' cells hold. Printed by vcgen.py.
-/
import Derived.Test.YtoigkpkafgjeaaaABlR7
set_option linter.unusedSimpArgs false
set_option linter.unusedVariables false
set_option maxRecDepth 100000
set_option maxHeartbeats 4000000
namespace Go.Proofs.Ytoigkpkafgjeaaa
open Go.ChangeShapes Go.WideShapes Go.ChangeAt Go.RowKit Go.Joins Go.Deep
open GoRep (rep bulk)

/-- the last of the first n events' words that is this one -/
def ev6 (w : ByteArray) : Nat → Int
  | 0 => -1
  | j + 1 => if eqS (upT (nth_String evW j)) (upT w) = true then ((j : Nat) : Int) else ev6 w j
theorem ev6_b (w : ByteArray) : ∀ n, -1 ≤ ev6 w n ∧ ev6 w n < ((n : Nat) : Int)
  | 0 => ⟨Int.le_refl _, by show (-1 : Int) < 0; decide⟩
  | j + 1 => by
    have := ev6_b w j
    unfold ev6
    split <;> omega
theorem ev6_y {w : ByteArray} {j : Nat} (h : upT (nth_String evW j) = upT w) : ((j : Nat) : Int) = ev6 w (j + 1) := (if_pos (eqS_true.2 h)).symm
theorem ev6_n {w : ByteArray} {j : Nat} (h : ¬ upT (nth_String evW j) = upT w) : ev6 w j = ev6 w (j + 1) := (if_neg (by rw [eqS_false.2 h]; decide)).symm
def bt6 : List ByteArray → Int → Int → Int × Bool
  | [], _, b => (b, true)
  | w :: ws, l, b => if ev6 w 4 ≤ l then (0, false) else bt6 ws (ev6 w 4) (orI b (ev6 w 4))
theorem bt_stop {ws : List ByteArray} {l b : Int} {n : Nat} (h : n < ws.length) (h1 : ev6 (nth_String ws n) 4 ≤ l) : bt6 (ws.drop n) l b = (0, false) := by
  rw [drop_str h]
  exact if_pos h1
theorem bt_next {ws : List ByteArray} {l b : Int} {n : Nat} (h : n < ws.length) (h1 : ¬ ev6 (nth_String ws n) 4 ≤ l) : bt6 (ws.drop n) l b = bt6 (ws.drop (n + 1)) (ev6 (nth_String ws n) 4) (orI b (ev6 (nth_String ws n) 4)) := by
  rw [drop_str h]
  exact if_neg h1
theorem bt_end {ws : List ByteArray} {l b : Int} {n : Nat} (h : ws.length ≤ n) : bt6 (ws.drop n) l b = (b, true) := by
  rw [List.drop_of_length_le h]
  rfl
def btI (ws : List ByteArray) (k : Nat) (l b : Int) : Prop := (k ≤ ws.length ∧ -1 ≤ l) ∧ bt6 (ws.drop k) l b = bt6 ws (-1) 0
theorem u64w : ∀ n : Nat, n < 4 → IntKind.wrap .u64 ((n : Nat) : Int) = ((n : Nat) : Int) := by decide
section
variable {words : List ByteArray} {k : Nat} {l b : Int} {j : Nat} {w : ByteArray}
theorem bt_0 : ∃ q : Nat × Int × Int, btI words q.1 q.2.1 q.2.2 ∧ (0 : Int) = q.2.2 ∧ (-1 : Int) = q.2.1 ∧ (0 : Int) = ((q.1 : Nat) : Int) := ⟨(0, -1, 0), ⟨⟨Nat.zero_le _, Int.le_refl _⟩, rfl⟩, rfl, rfl, rfl⟩
theorem bt_i0 : ∃ q : Nat, q ≤ 4 ∧ (-1 : Int) = ev6 w q ∧ (0 : Int) = ((q : Nat) : Int) := ⟨0, by decide, rfl, rfl⟩
theorem bt_iy (h : ((j : Nat) : Int) < 4) (e : upT (nth_String evW j) = upT w) : ∃ q : Nat, q ≤ 4 ∧ 4 - q < 4 - j ∧ ((j : Nat) : Int) = ev6 w q ∧ IntKind.wrap .i64 (((j : Nat) : Int) + 1) = ((q : Nat) : Int) := ⟨j + 1, by omega, by omega, ev6_y e, wrapN (by unfold maxLen; omega)⟩
theorem bt_in (h : ((j : Nat) : Int) < 4) (e : ¬ upT (nth_String evW j) = upT w) : ∃ q : Nat, q ≤ 4 ∧ 4 - q < 4 - j ∧ ev6 w j = ev6 w q ∧ IntKind.wrap .i64 (((j : Nat) : Int) + 1) = ((q : Nat) : Int) := ⟨j + 1, by omega, by omega, ev6_n e, wrapN (by unfold maxLen; omega)⟩
theorem bt_l (h : ((j : Nat) : Int) < 4) : ((j : Nat) : Int) < ((evW.length : Nat) : Int) := h
theorem bt_x (hi : btI words k l b) (hk : ((k : Nat) : Int) < ((words.length : Nat) : Int)) (hj : j ≤ 4) (hn : ¬ ((j : Nat) : Int) < 4) (h : ev6 (nth_String words k) j ≤ l) : bt6 words (-1) 0 = (0, false) := by
  obtain rfl : j = 4 := by omega
  rw [← hi.2]
  exact bt_stop (by omega) h
theorem bt_u (hi : btI words k l b) (hj : j ≤ 4) (h : ¬ ev6 w j ≤ l) : IntKind.wrap .u64 (ev6 w j) = ev6 w j := by
  have h1 := ev6_b w j
  have h2 := hi.1.2
  obtain ⟨n, hn⟩ : ∃ n : Nat, ev6 w j = ((n : Nat) : Int) := ⟨(ev6 w j).toNat, by omega⟩
  rw [hn]
  exact u64w n (by omega)
theorem bt_v (hi : btI words k l b) (hj : j ≤ 4) (h : ¬ ev6 w j ≤ l) : 0 ≤ IntKind.wrap .u64 (ev6 w j) := by
  rw [bt_u hi hj h]
  have h2 := hi.1.2
  omega
theorem bt_s (hm : words.length ≤ maxLen) (hi : btI words k l b) (hk : ((k : Nat) : Int) < ((words.length : Nat) : Int)) (hj : j ≤ 4) (hn : ¬ ((j : Nat) : Int) < 4) (h : ¬ ev6 (nth_String words k) j ≤ l) : ∃ q : Nat × Int × Int, btI words q.1 q.2.1 q.2.2 ∧ words.length - q.1 < words.length - k ∧
    IntKind.wrap .i64 (((BitVec.ofInt (IntKind.bits .i64) b ||| BitVec.ofInt (IntKind.bits .i64) (shlI .i64 1 (IntKind.wrap .u64 (ev6 (nth_String words k) j)))).toNat : Nat)) = q.2.2 ∧ ev6 (nth_String words k) j = q.2.1 ∧ IntKind.wrap .i64 (((k : Nat) : Int) + 1) = ((q.1 : Nat) : Int) := by
  have hu := bt_u hi hj h
  have h2 := hi.1.2
  obtain rfl : j = 4 := by omega
  refine ⟨(k + 1, ev6 (nth_String words k) 4, orI b (ev6 (nth_String words k) 4)), ⟨⟨by show k + 1 ≤ _; omega, ?_⟩, ?_⟩, by show _ - (k + 1) < _; omega, by rw [hu]; rfl, rfl, wrapN (by omega)⟩
  · show -1 ≤ ev6 _ 4
    omega
  · rw [← hi.2]
    exact (bt_next (by omega) h).symm
theorem bt_f (hi : btI words k l b) (hk : ¬ ((k : Nat) : Int) < ((words.length : Nat) : Int)) : bt6 words (-1) 0 = (b, true) := by
  rw [← hi.2]
  exact bt_end (by omega)
end
def L_s_l6Bits (words : List ByteArray) : Nat → List AV → Mem → LoopA
  | 4, tm, M => ⟨Nat × Int × Int, fun y => (anyR (setA tm [(2, .any), (3, .any), (4, .c (.int .i64 y.2.2)), (5, .c (.int .i64 y.2.1)), (6, .c (.int .i64 ((y.1 : Nat) : Int)))]) 7 33, M), fun y => (btI words y.1 y.2.1 y.2.2), fun y => (List.length words - y.1)⟩
  | 8, tm, M => ⟨Nat, fun y => (anyR (setA tm [(7, .c (.int .i64 (ev6 (nth_String words (Int.toNat (tmI tm 6))) y))), (8, .c (.int .i64 ((y : Nat) : Int)))]) 15 16, M), fun y => (y ≤ 4), fun y => (4 - y)⟩
  | _, _, _ => ⟨Unit, fun _ => ([], []), fun _ => False, fun _ => 0⟩
theorem b_s_l6Bits (words : List ByteArray) : BCalls Try.prog 46 [.c (.hs .no tyStr words)] (.tp [.c (.int .i64 (bt6 words (-1) 0).1), .c (.bool (bt6 words (-1) 0).2)]) [] := by
  refine bc0 [e_s_l6Events, e_s_Upper] [] [] [] (L_s_l6Bits words) Try.func46 (fun hwf => ?_)
  refine Eq.mpr (β := (T5 ((∃ q : Nat × Int × Int, (btI words q.1 q.2.1 q.2.2) ∧ ((lxs [.c (.hs .no tyStr words), .tp []] (True ∧ True ∧ leV (.c (.int .i64 0)) (.c (.int .i64 q.2.2)) ∧ leV (.c (.int .i64 (-1))) (.c (.int .i64 q.2.1)) ∧ leV (.c (.int .i64 0)) (.c (.int .i64 ((q.1 : Nat) : Int))) ∧ TN 33 (lxs [.tp []] True))) ∧ (True) ∧ true = true)) ∧ ∀ y0 : Nat × Int × Int, (btI words y0.1 y0.2.1 y0.2.2) → (T4 (bif (ltI ((y0.1 : Nat) : Int) ((List.length words : Nat) : Int)) then (T2 ((∃ q : Nat, (q ≤ 4) ∧ ((lxs [.c (.hs .no tyStr words), .tp []] (True ∧ True ∧ lxs [.c (.int .i64 y0.2.2), .c (.int .i64 y0.2.1), .c (.int .i64 ((y0.1 : Nat) : Int))] (leV (.c (.int .i64 (-1))) (.c (.int .i64 (ev6 (nth_String words (Int.toNat ((y0.1 : Nat) : Int))) q))) ∧ leV (.c (.int .i64 0)) (.c (.int .i64 ((q : Nat) : Int))) ∧ lxs [.c (.int .i64 ((y0.1 : Nat) : Int)), .c (.hs .no tyStr words), .c (.int .i64 ((List.length words : Nat) : Int)), .c (.bool true)] (TN 27 (lxs [.tp []] True))))) ∧ (True) ∧ true = true)) ∧ ∀ y1 : Nat, (y1 ≤ 4) → (T2 (bif (ltI ((y1 : Nat) : Int) 4) then ((true = true ∧ true = true) ∧ (T3 (((1 : Nat) = 1 ∧ (0 : Int) ≤ ((y0.1 : Nat) : Int) ∧ (((y0.1 : Nat) : Int) : Int) < ((List.length words : Nat) : Int)) ∧ (True ∧ ((True ∧ true = true) ∧ (((1 : Nat) = 1 ∧ (0 : Int) ≤ ((y1 : Nat) : Int) ∧ (((y1 : Nat) : Int) : Int) < ((List.length evW : Nat) : Int)) ∧ (True ∧ ((True ∧ true = true) ∧ ((True ∧ true = true) ∧ (True ∧ (bif (eqS (upT (nth_String evW (Int.toNat ((y1 : Nat) : Int)))) (upT (nth_String words (Int.toNat ((y0.1 : Nat) : Int))))) then (T5 (∃ y1' : Nat, (y1' ≤ 4) ∧ (4 - y1') < (4 - y1) ∧ ((lxs [.c (.hs .no tyStr words), .tp []] (True ∧ True ∧ lxs [.c (.int .i64 y0.2.2), .c (.int .i64 y0.2.1), .c (.int .i64 ((y0.1 : Nat) : Int))] (leV (.c (.int .i64 ((y1 : Nat) : Int))) (.c (.int .i64 (ev6 (nth_String words (Int.toNat ((y0.1 : Nat) : Int))) y1'))) ∧ leV (.c (.int .i64 (IntKind.wrap .i64 (((y1 : Nat) : Int) + 1)))) (.c (.int .i64 ((y1' : Nat) : Int))) ∧ lxs [.c (.int .i64 ((y0.1 : Nat) : Int)), .c (.hs .no tyStr words), .c (.int .i64 ((List.length words : Nat) : Int)), .c (.bool true)] (TN 27 (lxs [.tp []] True))))) ∧ (True) ∧ true = true))) else (T3 (∃ y1' : Nat, (y1' ≤ 4) ∧ (4 - y1') < (4 - y1) ∧ ((lxs [.c (.hs .no tyStr words), .tp []] (True ∧ True ∧ lxs [.c (.int .i64 y0.2.2), .c (.int .i64 y0.2.1), .c (.int .i64 ((y0.1 : Nat) : Int))] (leV (.c (.int .i64 (ev6 (nth_String words (Int.toNat ((y0.1 : Nat) : Int))) y1))) (.c (.int .i64 (ev6 (nth_String words (Int.toNat ((y0.1 : Nat) : Int))) y1'))) ∧ leV (.c (.int .i64 (IntKind.wrap .i64 (((y1 : Nat) : Int) + 1)))) (.c (.int .i64 ((y1' : Nat) : Int))) ∧ lxs [.c (.int .i64 ((y0.1 : Nat) : Int)), .c (.hs .no tyStr words), .c (.int .i64 ((List.length words : Nat) : Int)), .c (.bool true)] (TN 27 (lxs [.tp []] True))))) ∧ (True) ∧ true = true)))))))))))))) else (T3 (bif (leI (ev6 (nth_String words (Int.toNat ((y0.1 : Nat) : Int))) y1) y0.2.1) then (T2 ((((true = true ∧ leC (.int .i64 0) (.int .i64 (bt6 words (-1) 0).1)) ∧ (true = true ∧ leC (.bool false) (.bool (bt6 words (-1) 0).2)) ∧ True)) ∧ true = true)) else (T4 (true = true ∧ ((0 : Int) ≤ (IntKind.wrap .u64 (ev6 (nth_String words (Int.toNat ((y0.1 : Nat) : Int))) y1)) ∧ (T5 (∃ y0' : Nat × Int × Int, (btI words y0'.1 y0'.2.1 y0'.2.2) ∧ (List.length words - y0'.1) < (List.length words - y0.1) ∧ ((lxs [.c (.hs .no tyStr words), .tp []] (True ∧ True ∧ leV (.c (.int .i64 (IntKind.wrap .i64 (((BitVec.ofInt (IntKind.bits .i64) y0.2.2 ||| BitVec.ofInt (IntKind.bits .i64) (shlI .i64 1 (IntKind.wrap .u64 (ev6 (nth_String words (Int.toNat ((y0.1 : Nat) : Int))) y1)))).toNat : Nat))))) (.c (.int .i64 y0'.2.2)) ∧ leV (.c (.int .i64 (ev6 (nth_String words (Int.toNat ((y0.1 : Nat) : Int))) y1))) (.c (.int .i64 y0'.2.1)) ∧ leV (.c (.int .i64 (IntKind.wrap .i64 (((y0.1 : Nat) : Int) + 1)))) (.c (.int .i64 ((y0'.1 : Nat) : Int))) ∧ TN 33 (lxs [.tp []] True))) ∧ (True) ∧ true = true)))))))))))) else (T3 ((((true = true ∧ leC (.int .i64 y0.2.2) (.int .i64 (bt6 words (-1) 0).1)) ∧ (true = true ∧ leC (.bool true) (.bool (bt6 words (-1) 0).2)) ∧ True)) ∧ true = true))))))) (by kernel_rfl) ?_
  unfold T2 T3 T4 T5
  have hm : List.length words ≤ maxLen := hwf.1.1
  simp only [SI2A, eq_self]
  repeat' (with_reducible first | exact trivial | apply And.intro | intro _)
  all_goals first
    | (with_reducible trivial)
    | omega
    | (with_reducible assumption)
    | exact bt_0
    | exact bt_i0
    | exact bt_iy (by with_reducible assumption) (by with_reducible assumption)
    | exact bt_in (by with_reducible assumption) (by with_reducible assumption)
    | exact bt_l (by with_reducible assumption)
    | exact (congrArg Prod.fst (bt_x (by with_reducible assumption) (by with_reducible assumption) (by with_reducible assumption) (by with_reducible assumption) (by with_reducible assumption))).symm
    | exact (congrArg Prod.snd (bt_x (by with_reducible assumption) (by with_reducible assumption) (by with_reducible assumption) (by with_reducible assumption) (by with_reducible assumption))).symm
    | exact bt_v (by with_reducible assumption) (by with_reducible assumption) (by with_reducible assumption)
    | exact bt_s hm (by with_reducible assumption) (by with_reducible assumption) (by with_reducible assumption) (by with_reducible assumption) (by with_reducible assumption)
    | exact (congrArg Prod.fst (bt_f (by with_reducible assumption) (by with_reducible assumption))).symm
    | exact (congrArg Prod.snd (bt_f (by with_reducible assumption) (by with_reducible assumption))).symm
def e_s_l6Bits : Entry Try.prog := ⟨46, [.v (.list tyStr)], fun x => True, fun x => .tp [.c (.int .i64 (bt6 x.1 (-1) 0).1), .c (.bool (bt6 x.1 (-1) 0).2)], fun _ => [], fun x hx => b_s_l6Bits x.1, Try.call46⟩
end Go.Proofs.Ytoigkpkafgjeaaa
