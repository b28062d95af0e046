/-
  The reference's reader of tokens.
  No condition but what the arguments' cells hold. Printed by vcgen.py.
-/
import Derived.Test.YtoigkpkafgjeaaaABlRd
set_option linter.unusedSimpArgs false
set_option linter.unusedVariables false
set_option maxRecDepth 100000
set_option maxHeartbeats 4000000
namespace Go.Proofs.Ytoigkpkafgjeaaa
open Go.ChangeShapes Go.WideShapes Go.ChangeAt Go.RowKit Go.Joins Go.Deep
open GoRep (rep bulk)

abbrev GL6In := List GToken × Int × Bool
def tyL6In : Ty := .prod (.list tyToken) (.prod tyInt .bool)
theorem leB_l6 {a a' : List GToken} {b b' : Int} {c c' : Bool} : leB (.box [.hs .no tyToken a, .int .i64 b, .bool c]) (.box [.hs .no tyToken a', .int .i64 b', .bool c']) = ((a, b, c) = (a', b', c')) := by
  refine propext ⟨fun h => ?_, fun h => ?_⟩
  · have h := leB_eq h
    injection h with h
    injection h with h1 h
    injection h with h2 h
    injection h with h3 _
    injection h1 with _ _ h1
    injection h2 with _ h2
    injection h3 with h3
    exact Prod.ext h1 (Prod.ext h2 h3)
  · cases h
    exact Eq.mpr leB_refl trivial
def tk6Y (r : GL6In) (k : Int) : Bool := ltI r.2.1 ((r.1.length : Nat) : Int) && (eqI (nth_Token r.1 (Int.toNat r.2.1)).1 k && (eqI k 1 || eqS (nth_Token r.1 (Int.toNat r.2.1)).2 (⟨#[]⟩ : ByteArray)))
def tk6T (r : GL6In) (k : Int) : ByteArray := if tk6Y r k = true then (nth_Token r.1 (Int.toNat r.2.1)).2 else (⟨#[]⟩ : ByteArray)
def tk6R (r : GL6In) (k : Int) : GL6In := if tk6Y r k = true then (r.1, r.2.1 + 1, r.2.2) else (r.1, r.2.1, true)
def ok6 (r : GL6In) : Prop := (0 ≤ r.2.1 ∧ r.2.1 ≤ ((r.1.length : Nat) : Int)) ∧ r.1.length ≤ 1048576
theorem tk6_ok {r : GL6In} (k : Int) (h : ok6 r) : ok6 (tk6R r k) := by
  unfold tk6R
  split
  · rename_i hy
    unfold tk6Y at hy
    rw [Bool.and_eq_true] at hy
    have := ltI_true.1 hy.1
    exact ⟨⟨by have := h.1.1; show 0 ≤ r.2.1 + 1; omega, by show r.2.1 + 1 ≤ ((r.1.length : Nat) : Int); omega⟩, h.2⟩
  · exact h
section
variable {r : GL6In} {k : Int}
theorem t6_y (h : r.2.1 < ((r.1.length : Nat) : Int)) (h1 : (nth_Token r.1 (Int.toNat r.2.1)).1 = k) (h2 : k = 1 ∨ (nth_Token r.1 (Int.toNat r.2.1)).2 = (⟨#[]⟩ : ByteArray)) : tk6Y r k = true := by
  unfold tk6Y
  rw [ltI_true.2 h, eqI_true.2 h1, Bool.true_and, Bool.true_and, Bool.or_eq_true]
  exact h2.imp eqI_true.2 eqS_true.2
theorem t6_a (h : ¬ r.2.1 < ((r.1.length : Nat) : Int)) : tk6Y r k = false := by
  unfold tk6Y
  rw [ltI_false.2 h, Bool.false_and]
theorem t6_b (h1 : ¬ (nth_Token r.1 (Int.toNat r.2.1)).1 = k) : tk6Y r k = false := by
  unfold tk6Y
  rw [eqI_false.2 h1, Bool.false_and, Bool.and_false]
theorem t6_c (h1 : ¬ k = 1) (h2 : ¬ (nth_Token r.1 (Int.toNat r.2.1)).2 = (⟨#[]⟩ : ByteArray)) : tk6Y r k = false := by
  unfold tk6Y
  rw [eqI_false.2 h1, eqS_false.2 h2, Bool.or_false, Bool.and_false, Bool.and_false]
theorem t6_t (h : tk6Y r k = true) : (nth_Token r.1 (Int.toNat r.2.1)).2 = tk6T r k := (if_pos h).symm
theorem t6_n (h : tk6Y r k = false) : tk6T r k = (⟨#[]⟩ : ByteArray) := if_neg (by rw [h]; decide)
theorem t6_r (h : tk6Y r k = true) : tk6R r k = (r.1, r.2.1 + 1, r.2.2) := if_pos h
theorem t6_s (h : tk6Y r k = false) : tk6R r k = (r.1, r.2.1, true) := if_neg (by rw [h]; decide)
end
def k0beqgt (r : GL6In) (k : Int) : Prop := (T9 ((true = true ∧ true = true) ∧ (T9 (((2 : Nat) = 2 ∧ (0 : Int) ≤ (IntKind.wrap .i64 ((IntKind.wrap .i64 (r.2.1 + 1)) - 1)) ∧ ((IntKind.wrap .i64 ((IntKind.wrap .i64 (r.2.1 + 1)) - 1)) : Int) < ((List.length r.1 : Nat) : Int)) ∧ (T3 ((((((true = true ∧ leC (.hs .no tyToken r.1) (.hs .no tyToken (tk6R r k).1)) ∧ (true = true ∧ leC (.int .i64 (IntKind.wrap .i64 (r.2.1 + 1))) (.int .i64 (tk6R r k).2.1)) ∧ (true = true ∧ leC (.bool r.2.2) (.bool (tk6R r k).2.2)) ∧ True)) ∧ True) ∧ (true = true ∧ leC (.str (nth_Token r.1 (Int.toNat (IntKind.wrap .i64 ((IntKind.wrap .i64 (r.2.1 + 1)) - 1)))).2) (.str (tk6T r k)))) ∧ true = true))))))
def k1beqgt (r : GL6In) (k : Int) : Prop := (T5 ((((((true = true ∧ leC (.hs .no tyToken r.1) (.hs .no tyToken (tk6R r k).1)) ∧ (true = true ∧ leC (.int .i64 r.2.1) (.int .i64 (tk6R r k).2.1)) ∧ (true = true ∧ leC (.bool true) (.bool (tk6R r k).2.2)) ∧ True)) ∧ True) ∧ (true = true ∧ leC (.str (⟨#[]⟩ : ByteArray)) (.str (tk6T r k)))) ∧ true = true))
theorem m_s_l6Take (r : GL6In) (k : Int) (hpre : ok6 r) : MCalls Try.prog 43 (argsM 0 [(.b tyL6In), (.a (.v tyInt))] (r, k, ())) (preM 0 [(.b tyL6In), (.a (.v tyInt))] (r, k, ())) (postM 0 [(.b tyL6In), (.a (.v tyInt))] ((tk6R r k), k, ()) ++ []) (inpM 0 [(.b tyL6In), (.a (.v tyInt))]) (.c (.str (tk6T r k))) := by
  refine mcalls_of (T := ⟨[], [], [], [], none, fun _ => [], 1, [], []⟩) (L := L0) Try.func43 rfl rfl rfl (by kernel_rfl) (fun hwf hwm => ?_)
  refine Eq.mpr (β := (True ∧ ((true = true ∧ true = true) ∧ (T11 (bif (geI r.2.1 ((List.length r.1 : Nat) : Int)) then (T3 (k1beqgt r k)) else (T8 (((2 : Nat) = 2 ∧ (0 : Int) ≤ r.2.1 ∧ (r.2.1 : Int) < ((List.length r.1 : Nat) : Int)) ∧ (T6 (bif (neI (nth_Token r.1 (Int.toNat r.2.1)).1 k) then (True ∧ (k1beqgt r k)) else (T3 (bif (neI k 1) then (T8 (((2 : Nat) = 2 ∧ (0 : Int) ≤ r.2.1 ∧ (r.2.1 : Int) < ((List.length r.1 : Nat) : Int)) ∧ (T5 (bif (!eqS (nth_Token r.1 (Int.toNat r.2.1)).2 (⟨#[]⟩ : ByteArray)) then (k1beqgt r k) else (k0beqgt r k))))) else (T2 (k0beqgt r k))))))))))))) (by kernel_rfl) ?_
  unfold k1beqgt k0beqgt T11 T2 T3 T5 T6 T8 T9
  obtain ⟨⟨h1, h2⟩, h3⟩ : (0 ≤ r.2.1 ∧ r.2.1 ≤ ((r.1.length : Nat) : Int)) ∧ r.1.length ≤ 1048576 := hpre
  have w1 : IntKind.wrap .i64 (r.2.1 + 1) = r.2.1 + 1 := w64i (by omega) (by omega)
  have w2 : IntKind.wrap .i64 (r.2.1 + 1 - 1) = r.2.1 := by rw [w64i (by omega) (by omega)]; omega
  cases hy : tk6Y r k with
  | false =>
    rw [t6_s hy, t6_n hy]
    simp only [w1, w2]
    simp only [leB_l6, leC_tok, SI2A, eq_self]
    repeat' (with_reducible first | exact trivial | apply And.intro | intro _)
    all_goals first
      | (with_reducible trivial)
      | omega
      | (with_reducible assumption)
      | rfl
      | (exfalso; have := t6_y (r := r) (k := k) (by omega) (by with_reducible assumption) (.inl (by with_reducible assumption)); rw [hy] at this; cases this)
      | (exfalso; have := t6_y (r := r) (k := k) (by omega) (by with_reducible assumption) (.inr (by with_reducible assumption)); rw [hy] at this; cases this)
  | true =>
    rw [t6_r hy, ← t6_t hy]
    simp only [w1, w2]
    simp only [leB_l6, leC_tok, SI2A, eq_self]
    repeat' (with_reducible first | exact trivial | apply And.intro | intro _)
    all_goals first
      | (with_reducible trivial)
      | omega
      | (with_reducible assumption)
      | rfl
      | (exfalso; have := t6_a (r := r) (k := k) (by omega); rw [hy] at this; cases this)
      | (exfalso; have := t6_b (r := r) (k := k) (by with_reducible assumption); rw [hy] at this; cases this)
      | (exfalso; have := t6_c (r := r) (k := k) (by with_reducible assumption) (by with_reducible assumption); rw [hy] at this; cases this)
def e_s_l6Take : MEntry Try.prog := ⟨43, [(.b tyL6In), (.a (.v tyInt))], fun x => ok6 x.1, fun x => ((tk6R x.1 x.2.1), x.2.1, ()), fun x => .c (.str (tk6T x.1 x.2.1)), fun _ => [], fun x hx => m_s_l6Take x.1 x.2.1 hx, Try.call43⟩
end Go.Proofs.Ytoigkpkafgjeaaa
