/-
  The parts of a session and of a command.
  No condition but what the arguments' cells hold. Printed by vcgen.py.
-/
import Derived.Test.YtoigkpkafgjeaaaGreatDoorOBlOk
import Derived.Test.YtoigkpkafgjeaaaGreatDoorOUpper
import Derived.Test.YtoigkpkafgjeaaaGreatDoorOBlBox
set_option linter.unusedSimpArgs false
set_option linter.unusedVariables false
set_option maxRecDepth 100000
set_option maxHeartbeats 4000000
namespace Go.Proofs.YtoigkpkafgjeaaaGreatDoor
open Go.ChangeShapes Go.WideShapes Go.ChangeAt Go.RowKit Go.Joins Go.Deep
open GoRep (rep bulk)

theorem toN0 : Int.toNat 0 = 0 := rfl
def vBad (l : List GSpan) (i : Nat) : Bool := !btw (nth_Span l i).1 1 999999998 || (!btw (nth_Span l i).2 0 31 || (decide (0 < i) && leI (nth_Span l i).1 (nth_Span l (i - 1)).1))
def viewOk (l : List GSpan) : Bool := decide (∀ i, i < List.length l → vBad l i = false) && leI ((List.length l : Nat) : Int) 6
theorem viewOk_bad {l : List GSpan} {i : Nat} (hi : i < List.length l) (hb : vBad l i = true) : viewOk l = false := by
  unfold viewOk
  rw [decide_eq_false (fun q => by rw [q i hi] at hb; cases hb)]
  rfl
theorem viewOk_all {l : List GSpan} (h : ∀ i, i < List.length l → vBad l i = false) : viewOk l = leI ((List.length l : Nat) : Int) 6 := by
  unfold viewOk
  rw [decide_eq_true h]
  rfl
def outOk (x : GOut) : Bool := leI ((ByteArray.size x.1 : Nat) : Int) 1200 && leI ((ByteArray.size x.2 : Nat) : Int) 20000
def L_i_TagOk (s : ByteArray) : Nat → List AV → Mem → LoopA
  | 2, tm, M => ⟨Nat, fun y => (anyR (anyR (setA tm [(7, .c (.int .i64 ((y : Nat) : Int)))]) 2 3) 8 25, M), fun y => (y ≤ ByteArray.size s ∧ ∀ j, j < y → ¬ tgBad (byteAt s j)), fun y => (ByteArray.size s - y)⟩
  | _, _, _ => ⟨Unit, fun _ => ([], []), fun _ => False, fun _ => 0⟩
def k1r2u0k (s : ByteArray) (y0 : Nat) : Prop := (T2 (∃ y0' : Nat, (y0' ≤ ByteArray.size s ∧ ∀ j, j < y0' → ¬ tgBad (byteAt s j)) ∧ (ByteArray.size s - y0') < (ByteArray.size s - y0) ∧ ((lxs [.c (.str s), .tp []] (TN 3 (lxs [.c (.str s), .c (.int .i64 ((ByteArray.size s : Nat) : Int))] (leV (.c (.int .i64 (IntKind.wrap .i64 (((y0 : Nat) : Int) + 1)))) (.c (.int .i64 ((y0' : Nat) : Int))) ∧ TN 25 (lxs [.tp [], .tp [], .tp []] True))))) ∧ (True) ∧ true = true)))
def k0r2u0k (s : ByteArray) (y0 : Nat) : Prop := (T3 (bif (geI (byteAt (upT (ByteArray.extract s (Int.toNat ((y0 : Nat) : Int)) (Int.toNat (IntKind.wrap .i64 (((y0 : Nat) : Int) + 1))))) (Int.toNat 0)) 48) then (T5 (bif (!(leI (byteAt (upT (ByteArray.extract s (Int.toNat ((y0 : Nat) : Int)) (Int.toNat (IntKind.wrap .i64 (((y0 : Nat) : Int) + 1))))) (Int.toNat 0)) 57)) then (True ∧ (rB false (tagOk s))) else (k1r2u0k s y0))) else (T4 (rB false (tagOk s)))))
theorem b_i_TagOk (s : ByteArray) : BCalls Tryz.prog 36 [.c (.str s)] (.c (.bool (tagOk s))) [] := by
  refine bc0 [e_i_Upper, e_i_within] [] [] [] (L_i_TagOk s) Tryz.func36 (fun hwf => ?_)
  refine Eq.mpr (β := (T4 ((∃ q : Nat, (q ≤ ByteArray.size s ∧ ∀ j, j < q → ¬ tgBad (byteAt s j)) ∧ ((lxs [.c (.str s), .tp []] (TN 3 (lxs [.c (.str s), .c (.int .i64 ((ByteArray.size s : Nat) : Int))] (leV (.c (.int .i64 0)) (.c (.int .i64 ((q : Nat) : Int))) ∧ TN 25 (lxs [.tp [], .tp [], .tp []] True))))) ∧ (True) ∧ true = true)) ∧ ∀ y0 : Nat, (y0 ≤ ByteArray.size s ∧ ∀ j, j < y0 → ¬ tgBad (byteAt s j)) → (True ∧ (bif (ltI ((y0 : Nat) : Int) ((ByteArray.size s : Nat) : Int)) then (T6 (((0 : Int) ≤ ((y0 : Nat) : Int) ∧ (((y0 : Nat) : Int) : Int) ≤ (IntKind.wrap .i64 (((y0 : Nat) : Int) + 1)) ∧ ((IntKind.wrap .i64 (((y0 : Nat) : Int) + 1)) : Int) ≤ ((ByteArray.size s : Nat) : Int)) ∧ ((True ∧ true = true) ∧ (((0 : Int) ≤ 0 ∧ (0 : Int) < ((ByteArray.size (upT (ByteArray.extract s (Int.toNat ((y0 : Nat) : Int)) (Int.toNat (IntKind.wrap .i64 (((y0 : Nat) : Int) + 1))))) : Nat) : Int)) ∧ (T4 (bif (geI (byteAt (upT (ByteArray.extract s (Int.toNat ((y0 : Nat) : Int)) (Int.toNat (IntKind.wrap .i64 (((y0 : Nat) : Int) + 1))))) (Int.toNat 0)) 65) then (T4 (bif (leI (byteAt (upT (ByteArray.extract s (Int.toNat ((y0 : Nat) : Int)) (Int.toNat (IntKind.wrap .i64 (((y0 : Nat) : Int) + 1))))) (Int.toNat 0)) 90) then (T2 (k1r2u0k s y0)) else (k0r2u0k s y0))) else (T2 (k0r2u0k s y0)))))))) else (T2 ((True ∧ true = true) ∧ (True ∧ (rB (btw ((ByteArray.size s : Nat) : Int) 1 8) (tagOk s)))))))))) (by kernel_rfl) ?_
  unfold k0r2u0k k1r2u0k T2 T3 T4 T5 T6
  have hm : s.size ≤ maxLen := hwf.1
  unfold maxLen at hm
  simp only [SI2A, eq_self]
  refine ⟨⟨0, ⟨Nat.zero_le _, fun j hj => absurd hj (Nat.not_lt_zero j)⟩, rfl⟩, fun k hk => ⟨fun hlt => ?_, fun hge => ?_⟩⟩
  · have hu := up_one (s := s) (i := k) (by omega)
    have e3 : IntKind.wrap .i64 ((k : Int) + 1) = (k : Int) + 1 := wrapA (by omega) (by omega)
    have e1 : Int.toNat ((k : Int) + 1) = k + 1 := by omega
    have hui : upI (byteAt s k) = if 97 ≤ byteAt s k ∧ byteAt s k ≤ 122 then byteAt s k - 32 else byteAt s k := rfl
    simp only [e3, e1, toN0, hu.1, hu.2, Int.toNat_natCast]
    repeat' (first | apply And.intro | intro _)
    all_goals as_aux_lemma => first
      | trivial
      | omega
      | exact (tagOk_no (i := k) (by omega) (by unfold tgBad; omega)).symm
      | exact ⟨k + 1, ⟨by omega, fun j hj => if h : j < k then hk.2 j h else by obtain rfl : j = k := (by omega); unfold tgBad; omega⟩, by omega, by omega⟩
  · obtain rfl : k = s.size := by omega
    first | exact (tagOk_all hk.2).symm | exact ⟨trivial, (tagOk_all hk.2).symm⟩
def e_i_TagOk : Entry Tryz.prog := ⟨36, [.v tyStr], fun x => True, fun x => .c (.bool (tagOk x.1)), fun _ => [], fun x hx => b_i_TagOk x.1, Tryz.call36⟩
def L_s_TagOk (s : ByteArray) : Nat → List AV → Mem → LoopA
  | 2, tm, M => ⟨Nat, fun y => (anyR (setA tm [(2, .any), (3, .c (.int .i64 ((y : Nat) : Int)))]) 4 24, M), fun y => (y ≤ ByteArray.size s ∧ ∀ j, j < y → ¬ tgBad (byteAt s j)), fun y => (ByteArray.size s - y)⟩
  | _, _, _ => ⟨Unit, fun _ => ([], []), fun _ => False, fun _ => 0⟩
def k0l238u (s : ByteArray) (y0 : Nat) : Prop := (T3 (∃ y0' : Nat, (y0' ≤ ByteArray.size s ∧ ∀ j, j < y0' → ¬ tgBad (byteAt s j)) ∧ (ByteArray.size s - y0') < (ByteArray.size s - y0) ∧ ((lxs [.c (.str s), .tp []] (True ∧ leV (.c (.int .i64 (IntKind.wrap .i64 (((y0 : Nat) : Int) + 1)))) (.c (.int .i64 ((y0' : Nat) : Int))) ∧ TN 24 (lxs [.tp [], .tp [], .tp []] True))) ∧ (True) ∧ true = true)))
theorem b_s_TagOk (s : ByteArray) : BCalls Tryz.prog 64 [.c (.str s)] (.c (.bool (tagOk s))) [] := by
  refine bc0 [e_s_l1In] [] [] [] (L_s_TagOk s) Tryz.func64 (fun hwf => ?_)
  refine Eq.mpr (β := (T2 ((∃ q : Nat, (q ≤ ByteArray.size s ∧ ∀ j, j < q → ¬ tgBad (byteAt s j)) ∧ ((lxs [.c (.str s), .tp []] (True ∧ leV (.c (.int .i64 0)) (.c (.int .i64 ((q : Nat) : Int))) ∧ TN 24 (lxs [.tp [], .tp [], .tp []] True))) ∧ (True) ∧ true = true)) ∧ ∀ y0 : Nat, (y0 ≤ ByteArray.size s ∧ ∀ j, j < y0 → ¬ tgBad (byteAt s j)) → (T4 (bif (ltI ((y0 : Nat) : Int) ((ByteArray.size s : Nat) : Int)) then (T2 (((0 : Int) ≤ ((y0 : Nat) : Int) ∧ (((y0 : Nat) : Int) : Int) < ((ByteArray.size s : Nat) : Int)) ∧ (true = true ∧ (T2 ((True ∧ true = true) ∧ (T2 (bif (!(btw (IntKind.wrap .i64 (byteAt s (Int.toNat ((y0 : Nat) : Int)))) 97 122)) then (True ∧ ((True ∧ true = true) ∧ (T3 (bif (!(btw (IntKind.wrap .i64 (byteAt s (Int.toNat ((y0 : Nat) : Int)))) 65 90)) then (True ∧ ((True ∧ true = true) ∧ (T2 (bif (!(btw (IntKind.wrap .i64 (byteAt s (Int.toNat ((y0 : Nat) : Int)))) 48 57)) then (True ∧ (rB false (tagOk s))) else (k0l238u s y0))))) else (True ∧ (k0l238u s y0)))))) else (T3 (k0l238u s y0))))))))) else (T2 ((True ∧ true = true) ∧ (True ∧ (rB (btw ((ByteArray.size s : Nat) : Int) 1 8) (tagOk s)))))))))) (by kernel_rfl) ?_
  unfold k0l238u T2 T3 T4
  have hm : s.size ≤ maxLen := hwf.1
  unfold maxLen at hm
  simp only [SI2A, eq_self]
  refine ⟨⟨0, ⟨Nat.zero_le _, fun j hj => absurd hj (Nat.not_lt_zero j)⟩, rfl⟩, fun k hk => ⟨fun hlt => ?_, fun hge => ?_⟩⟩
  · have hb := byteAt_b s k
    have e0 : IntKind.wrap .i64 (byteAt s k) = byteAt s k := wrapA (by omega) (by omega)
    simp only [e0, btw_iff, btw_not, Int.toNat_natCast]
    repeat' (first | apply And.intro | intro _)
    all_goals as_aux_lemma => first
      | trivial
      | omega
      | exact (tagOk_no (i := k) (by omega) (by unfold tgBad; omega)).symm
      | exact ⟨k + 1, ⟨by omega, fun j hj => if h : j < k then hk.2 j h else by obtain rfl : j = k := (by omega); unfold tgBad; omega⟩, by omega, wrapN (by unfold maxLen; omega)⟩
  · obtain rfl : k = s.size := by omega
    first | exact (tagOk_all hk.2).symm | exact ⟨trivial, (tagOk_all hk.2).symm⟩
def e_s_TagOk : Entry Tryz.prog := ⟨64, [.v tyStr], fun x => True, fun x => .c (.bool (tagOk x.1)), fun _ => [], fun x hx => b_s_TagOk x.1, Tryz.call64⟩
def L_s_ViewOk (v : List GSpan) : Nat → List AV → Mem → LoopA
  | 2, tm, M => ⟨Nat, fun y => (anyR (setA tm [(2, .any), (3, .c (.int .i64 ((y : Nat) : Int)))]) 4 39, M), fun y => (y ≤ List.length v ∧ ∀ j, j < y → vBad v j = false), fun y => (List.length v - y)⟩
  | _, _, _ => ⟨Unit, fun _ => ([], []), fun _ => False, fun _ => 0⟩
def k0li0zl (v : List GSpan) (y0 : Nat) : Prop := (T2 ((True ∧ true = true) ∧ (T2 (bif (!(flagsOk (nth_Span v (Int.toNat ((y0 : Nat) : Int))).2)) then (True ∧ (rB false (viewOk v))) else (T3 (∃ y0' : Nat, (y0' ≤ List.length v ∧ ∀ j, j < y0' → vBad v j = false) ∧ (List.length v - y0') < (List.length v - y0) ∧ ((lxs [.ag [.hs .no tySpan v], .c (.bp 0 0)] (True ∧ leV (.c (.int .i64 (IntKind.wrap .i64 (((y0 : Nat) : Int) + 1)))) (.c (.int .i64 ((y0' : Nat) : Int))) ∧ TN 39 (lxs [.tp [], .tp [], .tp [], .tp []] True))) ∧ (lb (.box [.hs .no tySpan v]) ∧ True) ∧ true = true)))))))
theorem b_s_ViewOk (v : List GSpan) : BCalls Tryz.prog 98 [.ag [.hs .no tySpan v]] (.c (.bool (viewOk v))) [] := by
  refine bc0 [e_s_l1In, e_s_FlagsOk] [] [] [] (L_s_ViewOk v) Tryz.func98 (fun hwf => ?_)
  refine Eq.mpr (β := (T3 ((∃ q : Nat, (q ≤ List.length v ∧ ∀ j, j < q → vBad v j = false) ∧ ((lxs [.ag [.hs .no tySpan v], .c (.bp 0 0)] (True ∧ leV (.c (.int .i64 0)) (.c (.int .i64 ((q : Nat) : Int))) ∧ TN 39 (lxs [.tp [], .tp [], .tp [], .tp []] True))) ∧ (lb (.box [.hs .no tySpan v]) ∧ True) ∧ true = true)) ∧ ∀ y0 : Nat, (y0 ≤ List.length v ∧ ∀ j, j < y0 → vBad v j = false) → (T5 (bif (ltI ((y0 : Nat) : Int) ((List.length v : Nat) : Int)) then (T3 (((2 : Nat) = 2 ∧ (0 : Int) ≤ ((y0 : Nat) : Int) ∧ (((y0 : Nat) : Int) : Int) < ((List.length v : Nat) : Int)) ∧ (T3 ((true = true ∧ true = true) ∧ (T2 ((True ∧ true = true) ∧ (T2 (bif (!(btw (nth_Span v (Int.toNat ((y0 : Nat) : Int))).1 1 999999998)) then (T4 (rB false (viewOk v))) else (T3 (bif (gtI ((y0 : Nat) : Int) 0) then (T4 (((2 : Nat) = 2 ∧ (0 : Int) ≤ (IntKind.wrap .i64 (((y0 : Nat) : Int) - 1)) ∧ ((IntKind.wrap .i64 (((y0 : Nat) : Int) - 1)) : Int) < ((List.length v : Nat) : Int)) ∧ (T8 (bif (geI (nth_Span v (Int.toNat (IntKind.wrap .i64 (((y0 : Nat) : Int) - 1)))).1 (nth_Span v (Int.toNat ((y0 : Nat) : Int))).1) then (T2 (rB false (viewOk v))) else (k0li0zl v y0))))) else (T3 (k0li0zl v y0)))))))))))) else (T5 (rB (leI ((List.length v : Nat) : Int) 6) (viewOk v)))))))) (by kernel_rfl) ?_
  unfold k0li0zl T2 T3 T4 T5 T8
  have hm : List.length v ≤ maxLen := hwf.1.1.1
  unfold maxLen at hm
  simp only [SI2A, eq_self]
  refine ⟨⟨0, ⟨Nat.zero_le _, allN_zero⟩, rfl⟩, fun k hk => ⟨fun hlt => ?_, fun hge => ?_⟩⟩
  · have e : 0 < k → IntKind.wrap .i64 ((k : Int) - 1) = ((k - 1 : Nat) : Int) := fun h => by rw [wrapA (by omega) (by omega)]; omega
    repeat' (first | apply And.intro | intro _)
    all_goals as_aux_lemma => first
      | trivial
      | omega
      | (rw [e (by omega)]; omega)
      | exact (viewOk_bad (i := k) (by omega) (by first | simp_all [vBad, flagsOk, leI_true, leI_false] | (rw [e (by omega), Int.toNat_natCast] at *; simp_all [vBad, flagsOk, leI_true, leI_false]))).symm
      | exact ⟨k + 1, ⟨by omega, allN_step hk.2 (by first | (simp_all [vBad, flagsOk, leI_true, leI_false]; done) | (rw [e (by omega), Int.toNat_natCast] at *; simp_all [vBad, flagsOk, leI_true, leI_false]; done) | (simp_all [vBad, flagsOk, leI_true, leI_false]; omega))⟩, by omega, wrapN (by unfold maxLen; omega)⟩
  · obtain rfl : k = List.length v := by omega
    first | exact (viewOk_all hk.2).symm | exact ⟨trivial, (viewOk_all hk.2).symm⟩
def e_s_ViewOk : Entry Tryz.prog := ⟨98, [.s (.list tySpan)], fun x => True, fun x => .c (.bool (viewOk x.1)), fun _ => [], fun x hx => b_s_ViewOk x.1, Tryz.call98⟩
theorem b_i_OutOk (x : GOut) : BCalls Tryz.prog 11 [.ag [.str x.1, .str x.2]] (.c (.bool (outOk x))) [] := by
  refine bc0 [] [] [] [] L0 Tryz.func11 (fun hwf => ?_)
  refine Eq.mpr (β := (True ∧ (True ∧ (True ∧ (True ∧ (True ∧ (True ∧ (True ∧ (bif (leI ((ByteArray.size x.1 : Nat) : Int) 1200) then (True ∧ (True ∧ (True ∧ (True ∧ (True ∧ (True ∧ (rB (leI ((ByteArray.size x.2 : Nat) : Int) 20000) (outOk x)))))))) else (True ∧ (True ∧ (rB false (outOk x))))))))))))) (by kernel_rfl) ?_
  simp only [SI2A, eq_self]
  repeat' (first | apply And.intro | intro _)
  all_goals first
    | trivial
    | omega
    | (have h1 : leI ((ByteArray.size x.1 : Nat) : Int) 1200 = true := leI_true.2 (by assumption)
       unfold outOk
       rw [h1]
       rfl)
    | (have h1 : leI ((ByteArray.size x.1 : Nat) : Int) 1200 = false := leI_false.2 (by omega)
       unfold outOk
       rw [h1]
       rfl)
def e_i_OutOk : Entry Tryz.prog := ⟨11, [.s tyOut], fun x => True, fun x => .c (.bool (outOk x.1)), fun _ => [], fun x hx => b_i_OutOk x.1, Tryz.call11⟩
theorem b_s_OutOk (x : GOut) : BCalls Tryz.prog 29 [.ag [.str x.1, .str x.2]] (.c (.bool (outOk x))) [] := by
  refine bc0 [] [] [] [] L0 Tryz.func29 (fun hwf => ?_)
  refine Eq.mpr (β := (True ∧ (True ∧ (True ∧ (True ∧ (True ∧ (True ∧ (True ∧ (bif (leI ((ByteArray.size x.1 : Nat) : Int) 1200) then (True ∧ (True ∧ (True ∧ (True ∧ (True ∧ (True ∧ (rB (leI ((ByteArray.size x.2 : Nat) : Int) 20000) (outOk x)))))))) else (True ∧ (True ∧ (rB false (outOk x))))))))))))) (by kernel_rfl) ?_
  simp only [SI2A, eq_self]
  repeat' (first | apply And.intro | intro _)
  all_goals first
    | trivial
    | omega
    | (have h1 : leI ((ByteArray.size x.1 : Nat) : Int) 1200 = true := leI_true.2 (by assumption)
       unfold outOk
       rw [h1]
       rfl)
    | (have h1 : leI ((ByteArray.size x.1 : Nat) : Int) 1200 = false := leI_false.2 (by omega)
       unfold outOk
       rw [h1]
       rfl)
def e_s_OutOk : Entry Tryz.prog := ⟨29, [.s tyOut], fun x => True, fun x => .c (.bool (outOk x.1)), fun _ => [], fun x hx => b_s_OutOk x.1, Tryz.call29⟩
end Go.Proofs.YtoigkpkafgjeaaaGreatDoor
