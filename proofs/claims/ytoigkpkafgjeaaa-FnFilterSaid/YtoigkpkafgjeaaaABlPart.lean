/-
  The parts of a session and of a command.
  No condition but what the arguments' cells hold. Printed by vcgen.py.
-/
import Derived.Test.YtoigkpkafgjeaaaABlOk
import Derived.Test.YtoigkpkafgjeaaaAUpper
set_option linter.unusedSimpArgs false
set_option linter.unusedVariables false
set_option maxRecDepth 100000
set_option maxHeartbeats 4000000
namespace Go.Proofs.Ytoigkpkafgjeaaa
open Go.ChangeShapes Go.WideShapes Go.ChangeAt Go.RowKit Go.Joins Go.Deep
open GoRep (rep bulk)

def flagsOk (b : Int) : Bool := btw b 0 31
theorem lessS {a b : ByteArray} : (Op.bytesLess a.toList b.toList || eqS a b) = !Op.bytesLess b.toList a.toList := leS_ge a b
def scBad (l : List ByteArray) (i : Nat) : Bool := !nameOk (nth_String l i) || (decide (0 < i) && !Op.bytesLess (nth_String l (i - 1)).toList (nth_String l i).toList)
def scopeOk (z : GScope) : Bool := btw z.1 1 4 && (btw z.2.2 1 15 && (if z.1 < 3 then eqI ((List.length z.2.1 : Nat) : Int) 0 else decide (∀ i, i < List.length z.2.1 → scBad z.2.1 i = false) && btw ((List.length z.2.1 : Nat) : Int) 1 3))
theorem scopeOk_kind {z : GScope} (h : btw z.1 1 4 = false) : scopeOk z = false := by unfold scopeOk; rw [h]; rfl
theorem scopeOk_ev {z : GScope} (h : btw z.2.2 1 15 = false) : scopeOk z = false := by unfold scopeOk; rw [h]; cases btw z.1 1 4 <;> rfl
theorem scopeOk_plain {z : GScope} (h1 : btw z.1 1 4 = true) (h2 : btw z.2.2 1 15 = true) (h3 : z.1 < 3) : scopeOk z = eqI ((List.length z.2.1 : Nat) : Int) 0 := by unfold scopeOk; rw [h1, h2, if_pos h3]; rfl
theorem scopeOk_bad {z : GScope} {i : Nat} (h3 : ¬ z.1 < 3) (hi : i < List.length z.2.1) (hb : scBad z.2.1 i = true) : scopeOk z = false := by
  unfold scopeOk
  rw [if_neg h3, decide_eq_false (fun q => by rw [q i hi] at hb; cases hb)]
  cases btw z.1 1 4 <;> cases btw z.2.2 1 15 <;> rfl
theorem scopeOk_all {z : GScope} (h1 : btw z.1 1 4 = true) (h2 : btw z.2.2 1 15 = true) (h3 : ¬ z.1 < 3) (h : ∀ i, i < List.length z.2.1 → scBad z.2.1 i = false) : scopeOk z = btw ((List.length z.2.1 : Nat) : Int) 1 3 := by
  unfold scopeOk
  rw [h1, h2, if_neg h3, decide_eq_true h]
  rfl
def filterOk (f : GFilter) : Bool := if f.1 = true then btw ((List.length f.2 : Nat) : Int) 1 3 && !List.any f.2 (fun z0 : GScope => !scopeOk z0) else eqI ((List.length f.2 : Nat) : Int) 0
theorem b_i_hasNames (kind : Int) : BCalls Try.prog 31 [.c (.int .i64 kind)] (.c (.bool (eqI kind 3 || eqI kind 4))) [] := by
  refine bc0 [] [] [] [] L0 Try.func31 (fun hwf => ?_)
  refine Eq.mpr (β := (True ∧ (True ∧ (True ∧ (True ∧ (bif (eqI kind 3) then (True ∧ (True ∧ (rB true (eqI kind 3 || eqI kind 4)))) else (True ∧ (True ∧ (True ∧ (True ∧ (rB (eqI kind 4) (eqI kind 3 || eqI kind 4)))))))))))) (by kernel_rfl) ?_
  simp only [SIA, eq_self]
  repeat' (first | apply And.intro | intro _)
  all_goals (first | trivial | (rw [Bool.eq_iff_iff]; simp_all [Prod.ext_iff, EQA]; done) | (simp_all [Prod.ext_iff, EQA]; done) | omega)
def e_i_hasNames : Entry Try.prog := ⟨31, [.v tyInt], fun x => True, fun x => .c (.bool (eqI x.1 3 || eqI x.1 4)), fun _ => [], fun x hx => b_i_hasNames x.1, Try.call31⟩
def L_i_ScopeOk (z : GScope) : Nat → List AV → Mem → LoopA
  | 6, tm, M => ⟨Nat, fun y => (anyR (anyR (setA tm [(26, .c (.int .i64 ((y : Nat) : Int)))]) 2 3) 27 22, M), fun y => (y ≤ List.length z.2.1 ∧ ∀ j, j < y → scBad z.2.1 j = false), fun y => (List.length z.2.1 - y)⟩
  | _, _, _ => ⟨Unit, fun _ => ([], []), fun _ => False, fun _ => 0⟩
def k01pwzq (z : GScope) (y0 : Nat) : Prop := (T2 (∃ y0' : Nat, (y0' ≤ List.length z.2.1 ∧ ∀ j, j < y0' → scBad z.2.1 j = false) ∧ (List.length z.2.1 - y0') < (List.length z.2.1 - y0) ∧ ((lxs [.ag [.int .i64 z.1, .hs .no tyStr z.2.1, .int .i64 z.2.2], .c (.bp 0 0)] (TN 3 (lxs [.c (.bp 0 0), .c (.int .i64 z.1), .c (.bool (btw z.1 1 4)), .c (.bool (!(btw z.1 1 4))), .c (.bool false), .c (.bp 0 2), .c (.int .i64 z.2.2), .c (.bool (btw z.2.2 1 15)), .c (.bool (!(btw z.2.2 1 15))), .c (.bool false), .c (.bp 0 0), .c (.int .i64 z.1), .c (.bool (eqI z.1 3 || eqI z.1 4)), .c (.bool false), .tp [], .tp [], .tp [], .tp [], .c (.bp 0 1), .c (.hs .no tyStr z.2.1), .c (.int .i64 ((List.length z.2.1 : Nat) : Int))] (leV (.c (.int .i64 (IntKind.wrap .i64 (((y0 : Nat) : Int) + 1)))) (.c (.int .i64 ((y0' : Nat) : Int))) ∧ TN 22 (lxs [.tp [], .tp [], .tp [], .tp []] True))))) ∧ (lb (.box [.int .i64 z.1, .hs .no tyStr z.2.1, .int .i64 z.2.2]) ∧ True) ∧ true = true)))
theorem b_i_ScopeOk (z : GScope) : BCalls Try.prog 65 [.ag [.int .i64 z.1, .hs .no tyStr z.2.1, .int .i64 z.2.2]] (.c (.bool (scopeOk z))) [] := by
  refine bc0 [e_i_within, e_i_hasNames, e_i_NameOk] [] [] [] (L_i_ScopeOk z) Try.func65 (fun hwf => ?_)
  refine Eq.mpr (β := (T4 ((True ∧ true = true) ∧ (T2 (bif (!(btw z.1 1 4)) then (T2 (rB false (scopeOk z))) else (T2 ((True ∧ true = true) ∧ (T2 (bif (!(btw z.2.2 1 15)) then (True ∧ (rB false (scopeOk z))) else (T2 ((True ∧ true = true) ∧ (True ∧ (bif (!(eqI z.1 3 || eqI z.1 4)) then (T5 (rB (eqI ((List.length z.2.1 : Nat) : Int) 0) (scopeOk z))) else (T4 ((∃ q : Nat, (q ≤ List.length z.2.1 ∧ ∀ j, j < q → scBad z.2.1 j = false) ∧ ((lxs [.ag [.int .i64 z.1, .hs .no tyStr z.2.1, .int .i64 z.2.2], .c (.bp 0 0)] (TN 3 (lxs [.c (.bp 0 0), .c (.int .i64 z.1), .c (.bool (btw z.1 1 4)), .c (.bool (!(btw z.1 1 4))), .c (.bool false), .c (.bp 0 2), .c (.int .i64 z.2.2), .c (.bool (btw z.2.2 1 15)), .c (.bool (!(btw z.2.2 1 15))), .c (.bool false), .c (.bp 0 0), .c (.int .i64 z.1), .c (.bool (eqI z.1 3 || eqI z.1 4)), .c (.bool false), .tp [], .tp [], .tp [], .tp [], .c (.bp 0 1), .c (.hs .no tyStr z.2.1), .c (.int .i64 ((List.length z.2.1 : Nat) : Int))] (leV (.c (.int .i64 0)) (.c (.int .i64 ((q : Nat) : Int))) ∧ TN 22 (lxs [.tp [], .tp [], .tp [], .tp []] True))))) ∧ (lb (.box [.int .i64 z.1, .hs .no tyStr z.2.1, .int .i64 z.2.2]) ∧ True) ∧ true = true)) ∧ ∀ y0 : Nat, (y0 ≤ List.length z.2.1 ∧ ∀ j, j < y0 → scBad z.2.1 j = false) → (True ∧ (bif (ltI ((y0 : Nat) : Int) ((List.length z.2.1 : Nat) : Int)) then (True ∧ (((1 : Nat) = 1 ∧ (0 : Int) ≤ ((y0 : Nat) : Int) ∧ (((y0 : Nat) : Int) : Int) < ((List.length z.2.1 : Nat) : Int)) ∧ (T4 ((True ∧ true = true) ∧ (T2 (bif (!(nameOk (nth_String z.2.1 (Int.toNat ((y0 : Nat) : Int))))) then (T2 (rB false (scopeOk z))) else (T3 (bif (gtI ((y0 : Nat) : Int) 0) then (T5 (((1 : Nat) = 1 ∧ (0 : Int) ≤ (IntKind.wrap .i64 (((y0 : Nat) : Int) - 1)) ∧ ((IntKind.wrap .i64 (((y0 : Nat) : Int) - 1)) : Int) < ((List.length z.2.1 : Nat) : Int)) ∧ (T4 (bif (Op.bytesLess (nth_String z.2.1 (Int.toNat ((y0 : Nat) : Int))).toList (nth_String z.2.1 (Int.toNat (IntKind.wrap .i64 (((y0 : Nat) : Int) - 1)))).toList || eqS (nth_String z.2.1 (Int.toNat ((y0 : Nat) : Int))) (nth_String z.2.1 (Int.toNat (IntKind.wrap .i64 (((y0 : Nat) : Int) - 1))))) then (True ∧ (rB false (scopeOk z))) else (k01pwzq z y0))))) else (T2 (k01pwzq z y0)))))))))) else (T3 ((True ∧ true = true) ∧ (True ∧ (rB (btw ((List.length z.2.1 : Nat) : Int) 1 3) (scopeOk z)))))))))))))))))))))) (by kernel_rfl) ?_
  unfold k01pwzq T2 T3 T4 T5
  have hm : List.length z.2.1 ≤ maxLen := hwf.1.2.1.1
  unfold maxLen at hm
  simp only [lessS]
  simp only [SI2A, eq_self]
  refine ⟨fun h1 => (scopeOk_kind h1).symm, fun h1 => ⟨fun h2 => (scopeOk_ev h2).symm, fun h2 => ⟨fun h3 => ?_, fun h3 => ⟨⟨0, ⟨Nat.zero_le _, allN_zero⟩, rfl⟩, fun k hk => ⟨fun hlt => ?_, fun hge => ?_⟩⟩⟩⟩⟩
  · have h3' : z.1 < 3 := by
      rw [Bool.or_eq_false_iff, eqI_false, eqI_false] at h3
      rw [btw_iff] at h1
      omega
    exact (scopeOk_plain h1 h2 h3').symm
  · have h4 : ¬ z.1 < 3 := by
      rw [Bool.or_eq_true, eqI_true, eqI_true] at h3
      omega
    have hlt' : k < List.length z.2.1 := by omega
    refine ⟨by omega, fun p => (scopeOk_bad h4 hlt' (by simp [scBad, p])).symm, fun p => ⟨fun hp => ?_, fun hp => ?_⟩⟩
    · have e : IntKind.wrap .i64 ((k : Int) - 1) = ((k - 1 : Nat) : Int) := by rw [wrapA (by omega) (by omega)]; omega
      have hp' : 0 < k := by omega
      rw [e, Int.toNat_natCast]
      refine ⟨by omega, ⟨fun r => (scopeOk_bad h4 hlt' (by simp [scBad, p, r, hp'])).symm, fun r => ⟨k + 1, ⟨by omega, allN_step hk.2 (by simp [scBad, p, r])⟩, by omega, wrapN (by unfold maxLen; omega)⟩⟩⟩
    · have hp' : ¬ 0 < k := by omega
      exact ⟨k + 1, ⟨by omega, allN_step hk.2 (by simp [scBad, p, hp'])⟩, by omega, wrapN (by unfold maxLen; omega)⟩
  · have h4 : ¬ z.1 < 3 := by
      rw [Bool.or_eq_true, eqI_true, eqI_true] at h3
      omega
    obtain rfl : k = List.length z.2.1 := by omega
    exact (scopeOk_all h1 h2 h4 hk.2).symm
def e_i_ScopeOk : Entry Try.prog := ⟨65, [.s tyScope], fun x => True, fun x => .c (.bool (scopeOk x.1)), fun _ => [], fun x hx => b_i_ScopeOk x.1, Try.call65⟩
def L_s_ScopeOk (z : GScope) : Nat → List AV → Mem → LoopA
  | 6, tm, M => ⟨Nat, fun y => (anyR (setA tm [(2, .any), (3, .c (.int .i64 ((y : Nat) : Int)))]) 21 32, M), fun y => (y ≤ List.length z.2.1 ∧ ∀ j, j < y → scBad z.2.1 j = false), fun y => (List.length z.2.1 - y)⟩
  | _, _, _ => ⟨Unit, fun _ => ([], []), fun _ => False, fun _ => 0⟩
def k018ryo (z : GScope) (y0 : Nat) : Prop := (T3 (∃ y0' : Nat, (y0' ≤ List.length z.2.1 ∧ ∀ j, j < y0' → scBad z.2.1 j = false) ∧ (List.length z.2.1 - y0') < (List.length z.2.1 - y0) ∧ ((lxs [.ag [.int .i64 z.1, .hs .no tyStr z.2.1, .int .i64 z.2.2], .c (.bp 0 0)] (True ∧ leV (.c (.int .i64 (IntKind.wrap .i64 (((y0 : Nat) : Int) + 1)))) (.c (.int .i64 ((y0' : Nat) : Int))) ∧ lxs [.c (.bp 0 0), .c (.int .i64 z.1), .c (.bool (btw z.1 1 4)), .c (.bool (!(btw z.1 1 4))), .c (.bool false), .c (.bp 0 2), .c (.int .i64 z.2.2), .c (.bool (btw z.2.2 1 15)), .c (.bool (!(btw z.2.2 1 15))), .c (.bool false), .c (.bp 0 0), .c (.int .i64 z.1), .c (.bool false), .tp [], .tp [], .tp [], .tp []] (TN 32 (lxs [.tp [], .tp [], .tp [], .tp []] True)))) ∧ (lb (.box [.int .i64 z.1, .hs .no tyStr z.2.1, .int .i64 z.2.2]) ∧ True) ∧ true = true)))
theorem b_s_ScopeOk (z : GScope) : BCalls Try.prog 47 [.ag [.int .i64 z.1, .hs .no tyStr z.2.1, .int .i64 z.2.2]] (.c (.bool (scopeOk z))) [] := by
  refine bc0 [e_s_l1In, e_s_NameOk] [] [] [] (L_s_ScopeOk z) Try.func47 (fun hwf => ?_)
  refine Eq.mpr (β := (T4 ((True ∧ true = true) ∧ (T2 (bif (!(btw z.1 1 4)) then (T2 (rB false (scopeOk z))) else (T2 ((True ∧ true = true) ∧ (T2 (bif (!(btw z.2.2 1 15)) then (True ∧ (rB false (scopeOk z))) else (T3 (bif (ltI z.1 3) then (T5 (rB (eqI ((List.length z.2.1 : Nat) : Int) 0) (scopeOk z))) else (True ∧ ((∃ q : Nat, (q ≤ List.length z.2.1 ∧ ∀ j, j < q → scBad z.2.1 j = false) ∧ ((lxs [.ag [.int .i64 z.1, .hs .no tyStr z.2.1, .int .i64 z.2.2], .c (.bp 0 0)] (True ∧ leV (.c (.int .i64 0)) (.c (.int .i64 ((q : Nat) : Int))) ∧ lxs [.c (.bp 0 0), .c (.int .i64 z.1), .c (.bool (btw z.1 1 4)), .c (.bool (!(btw z.1 1 4))), .c (.bool false), .c (.bp 0 2), .c (.int .i64 z.2.2), .c (.bool (btw z.2.2 1 15)), .c (.bool (!(btw z.2.2 1 15))), .c (.bool false), .c (.bp 0 0), .c (.int .i64 z.1), .c (.bool false), .tp [], .tp [], .tp [], .tp []] (TN 32 (lxs [.tp [], .tp [], .tp [], .tp []] True)))) ∧ (lb (.box [.int .i64 z.1, .hs .no tyStr z.2.1, .int .i64 z.2.2]) ∧ True) ∧ true = true)) ∧ ∀ y0 : Nat, (y0 ≤ List.length z.2.1 ∧ ∀ j, j < y0 → scBad z.2.1 j = false) → (T5 (bif (ltI ((y0 : Nat) : Int) ((List.length z.2.1 : Nat) : Int)) then ((true = true ∧ true = true) ∧ (T3 (((1 : Nat) = 1 ∧ (0 : Int) ≤ ((y0 : Nat) : Int) ∧ (((y0 : Nat) : Int) : Int) < ((List.length z.2.1 : Nat) : Int)) ∧ (True ∧ ((True ∧ true = true) ∧ (T2 (bif (!(nameOk (nth_String z.2.1 (Int.toNat ((y0 : Nat) : Int))))) then (T2 (rB false (scopeOk z))) else (T3 (bif (gtI ((y0 : Nat) : Int) 0) then (T4 (((1 : Nat) = 1 ∧ (0 : Int) ≤ (IntKind.wrap .i64 (((y0 : Nat) : Int) - 1)) ∧ ((IntKind.wrap .i64 (((y0 : Nat) : Int) - 1)) : Int) < ((List.length z.2.1 : Nat) : Int)) ∧ (T4 (((1 : Nat) = 1 ∧ (0 : Int) ≤ ((y0 : Nat) : Int) ∧ (((y0 : Nat) : Int) : Int) < ((List.length z.2.1 : Nat) : Int)) ∧ (T4 (bif (!Op.bytesLess (nth_String z.2.1 (Int.toNat (IntKind.wrap .i64 (((y0 : Nat) : Int) - 1)))).toList (nth_String z.2.1 (Int.toNat ((y0 : Nat) : Int))).toList) then (True ∧ (rB false (scopeOk z))) else (k018ryo z y0))))))) else (T2 (k018ryo z y0))))))))))) else (T3 ((True ∧ true = true) ∧ (True ∧ (rB (btw ((List.length z.2.1 : Nat) : Int) 1 3) (scopeOk z)))))))))))))))))))) (by kernel_rfl) ?_
  unfold k018ryo T2 T3 T4 T5
  have hm : List.length z.2.1 ≤ maxLen := hwf.1.2.1.1
  unfold maxLen at hm
  simp only [lessS]
  simp only [SI2A, eq_self]
  refine ⟨fun h1 => (scopeOk_kind h1).symm, fun h1 => ⟨fun h2 => (scopeOk_ev h2).symm, fun h2 => ⟨fun h3 => ?_, fun h3 => ⟨⟨0, ⟨Nat.zero_le _, allN_zero⟩, rfl⟩, fun k hk => ⟨fun hlt => ?_, fun hge => ?_⟩⟩⟩⟩⟩
  · have h3' := h3
    exact (scopeOk_plain h1 h2 h3').symm
  · have h4 := h3
    have hlt' : k < List.length z.2.1 := by omega
    refine ⟨by omega, fun p => (scopeOk_bad h4 hlt' (by simp [scBad, p])).symm, fun p => ⟨fun hp => ?_, fun hp => ?_⟩⟩
    · have e : IntKind.wrap .i64 ((k : Int) - 1) = ((k - 1 : Nat) : Int) := by rw [wrapA (by omega) (by omega)]; omega
      have hp' : 0 < k := by omega
      rw [e, Int.toNat_natCast]
      refine ⟨by omega, by omega, ⟨fun r => (scopeOk_bad h4 hlt' (by simp [scBad, p, r, hp'])).symm, fun r => ⟨k + 1, ⟨by omega, allN_step hk.2 (by simp [scBad, p, r])⟩, by omega, wrapN (by unfold maxLen; omega)⟩⟩⟩
    · have hp' : ¬ 0 < k := by omega
      exact ⟨k + 1, ⟨by omega, allN_step hk.2 (by simp [scBad, p, hp'])⟩, by omega, wrapN (by unfold maxLen; omega)⟩
  · have h4 := h3
    obtain rfl : k = List.length z.2.1 := by omega
    exact (scopeOk_all h1 h2 h4 hk.2).symm
def e_s_ScopeOk : Entry Try.prog := ⟨47, [.s tyScope], fun x => True, fun x => .c (.bool (scopeOk x.1)), fun _ => [], fun x hx => b_s_ScopeOk x.1, Try.call47⟩
theorem b_i_FilterOk_1 (z : GScope) : BCalls Try.prog 64 [.ag [.int .i64 z.1, .hs .no tyStr z.2.1, .int .i64 z.2.2]] (.c (.bool (!scopeOk z))) [] := by
  refine bc0 [e_i_ScopeOk] [] [] [] L0 Try.func64 (fun hwf => ?_)
  refine Eq.mpr (β := (True ∧ (True ∧ (True ∧ ((True ∧ true = true) ∧ (True ∧ (True ∧ (rB (!(scopeOk z)) (!scopeOk z))))))))) (by kernel_rfl) ?_
  simp only [SIA, eq_self]
  repeat' (first | apply And.intro | intro _)
  all_goals (first | trivial | (rw [Bool.eq_iff_iff]; simp_all [Prod.ext_iff, EQA]; done) | (simp_all [Prod.ext_iff, EQA]; done) | omega)
def e_i_FilterOk_1 : Entry Try.prog := ⟨64, [.s tyScope], fun x => True, fun x => .c (.bool (!scopeOk x.1)), fun _ => [], fun x hx => b_i_FilterOk_1 x.1, Try.call64⟩
theorem b_i_FilterOk (f : GFilter) : BCalls Try.prog 28 [.ag [.bool f.1, .hs .no tyScope f.2]] (.c (.bool (filterOk f))) [] := by
  refine bc0 [e_i_within, e_i_FilterOk_1] [e_slices_ContainsFunc_i_Scope_i_Scope] [] [] L0 Try.func28 (fun hwf => ?_)
  refine Eq.mpr (β := (True ∧ (True ∧ (True ∧ (True ∧ (True ∧ (bif (!f.1) then (True ∧ (True ∧ (True ∧ (True ∧ (True ∧ (rB (eqI ((List.length f.2 : Nat) : Int) 0) (filterOk f))))))) else (True ∧ (True ∧ (True ∧ ((True ∧ true = true) ∧ (True ∧ (bif btw ((List.length f.2 : Nat) : Int) 1 3 then (True ∧ (True ∧ (((∀ z0 : GScope, True ∧ True) ∧ ∀ (_ : GScope → Bool) (_ : List GScope), true = true) ∧ (True ∧ (True ∧ (True ∧ (rB (!(List.any f.2 (fun z0 : GScope => (!scopeOk z0)))) (filterOk f)))))))) else (True ∧ (True ∧ (rB false (filterOk f))))))))))))))))) (by kernel_rfl) ?_
  simp only [SI2A, eq_self]
  repeat' (first | apply And.intro | intro _)
  all_goals first
    | trivial
    | omega
    | (simp_all [filterOk]; done)
def e_i_FilterOk : Entry Try.prog := ⟨28, [.s tyFilter], fun x => True, fun x => .c (.bool (filterOk x.1)), fun _ => [], fun x hx => b_i_FilterOk x.1, Try.call28⟩
theorem scAny_no {l : List GScope} (h : ∀ j, j < List.length l → scopeOk (nth_Scope l j) = true) : List.any l (fun z0 : GScope => !scopeOk z0) = false := any_of_nth (t := tyScope) (xs := l) (p := fun z0 : GScope => !scopeOk z0) (fun j hj => by show (!scopeOk (nth_Scope l j)) = false; rw [h j hj]; rfl)
theorem scAny_yes {l : List GScope} {k : Nat} (hk : k < List.length l) (h : scopeOk (nth_Scope l k) = false) : List.any l (fun z0 : GScope => !scopeOk z0) = true := any_at_nth (t := tyScope) (xs := l) (p := fun z0 : GScope => !scopeOk z0) hk (by show (!scopeOk (nth_Scope l k)) = true; rw [h]; rfl)
def L_s_FilterOk (f : GFilter) : Nat → List AV → Mem → LoopA
  | 2, tm, M => ⟨Nat, fun y => (anyR (setA tm [(2, .any), (3, .c (.int .i64 ((y : Nat) : Int)))]) 4 14, M), fun y => (y ≤ List.length f.2 ∧ ∀ j, j < y → scopeOk (nth_Scope f.2 j) = true), fun y => (List.length f.2 - y)⟩
  | _, _, _ => ⟨Unit, fun _ => ([], []), fun _ => False, fun _ => 0⟩
theorem b_s_FilterOk (f : GFilter) : BCalls Try.prog 15 [.ag [.bool f.1, .hs .no tyScope f.2]] (.c (.bool (filterOk f))) [] := by
  refine bc0 [e_s_ScopeOk, e_s_l1In] [] [] [] (L_s_FilterOk f) Try.func15 (fun hwf => ?_)
  refine Eq.mpr (β := (T3 ((∃ q : Nat, (q ≤ List.length f.2 ∧ ∀ j, j < q → scopeOk (nth_Scope f.2 j) = true) ∧ ((lxs [.ag [.bool f.1, .hs .no tyScope f.2], .c (.bp 0 0)] (True ∧ leV (.c (.int .i64 0)) (.c (.int .i64 ((q : Nat) : Int))) ∧ TN 14 (lxs [.tp [], .tp [], .tp [], .tp [], .tp [], .tp [], .tp [], .tp [], .tp [], .tp [], .tp []] True))) ∧ (lb (.box [.bool f.1, .hs .no tyScope f.2]) ∧ True) ∧ true = true)) ∧ ∀ y0 : Nat, (y0 ≤ List.length f.2 ∧ ∀ j, j < y0 → scopeOk (nth_Scope f.2 j) = true) → (T5 (bif (ltI ((y0 : Nat) : Int) ((List.length f.2 : Nat) : Int)) then (T3 (((3 : Nat) = 3 ∧ (0 : Int) ≤ ((y0 : Nat) : Int) ∧ (((y0 : Nat) : Int) : Int) < ((List.length f.2 : Nat) : Int)) ∧ (True ∧ ((True ∧ true = true) ∧ (True ∧ (bif (!(scopeOk (nth_Scope f.2 (Int.toNat ((y0 : Nat) : Int))))) then (True ∧ (rB false (filterOk f))) else (T3 (∃ y0' : Nat, (y0' ≤ List.length f.2 ∧ ∀ j, j < y0' → scopeOk (nth_Scope f.2 j) = true) ∧ (List.length f.2 - y0') < (List.length f.2 - y0) ∧ ((lxs [.ag [.bool f.1, .hs .no tyScope f.2], .c (.bp 0 0)] (True ∧ leV (.c (.int .i64 (IntKind.wrap .i64 (((y0 : Nat) : Int) + 1)))) (.c (.int .i64 ((y0' : Nat) : Int))) ∧ TN 14 (lxs [.tp [], .tp [], .tp [], .tp [], .tp [], .tp [], .tp [], .tp [], .tp [], .tp [], .tp []] True))) ∧ (lb (.box [.bool f.1, .hs .no tyScope f.2]) ∧ True) ∧ true = true))))))))) else (T3 (bif (!f.1) then (T5 (rB (eqI ((List.length f.2 : Nat) : Int) 0) (filterOk f))) else (T3 ((True ∧ true = true) ∧ (True ∧ (rB (btw ((List.length f.2 : Nat) : Int) 1 3) (filterOk f)))))))))))) (by kernel_rfl) ?_
  unfold T3 T5
  have hm : List.length f.2 ≤ maxLen := hwf.1.2.1.1
  unfold maxLen at hm
  simp only [SI2A, eq_self]
  refine ⟨⟨0, ⟨Nat.zero_le _, allN_zero⟩, rfl⟩, fun k hk => ⟨fun hlt => ?_, fun hge => ?_⟩⟩
  · have hlt' : k < List.length f.2 := by omega
    refine ⟨by omega, fun p => ?_, fun p => ⟨k + 1, ⟨by omega, allN_step hk.2 p⟩, by omega, wrapN (by unfold maxLen; omega)⟩⟩
    unfold filterOk
    rw [scAny_yes hlt' p]
    cases f.1 with
    | true => simp
    | false => simp [eqI_false]; intro h; rw [h] at hlt'; cases hlt'
  · obtain rfl : k = List.length f.2 := by omega
    unfold filterOk
    rw [scAny_no hk.2]
    cases f.1 <;> simp
def e_s_FilterOk : Entry Try.prog := ⟨15, [.s tyFilter], fun x => True, fun x => .c (.bool (filterOk x.1)), fun _ => [], fun x hx => b_s_FilterOk x.1, Try.call15⟩
end Go.Proofs.Ytoigkpkafgjeaaa
