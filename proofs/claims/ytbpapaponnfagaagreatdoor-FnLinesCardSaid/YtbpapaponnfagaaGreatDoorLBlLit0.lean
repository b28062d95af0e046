/-
  Numbers of program and reference.
  No condition but what the arguments' cells hold. Printed by vcgen.py.
-/
import Derived.Test.YtbpapaponnfagaaGreatDoorLBlNum
import Derived.Test.YtbpapaponnfagaaGreatDoorLBlLib
import Derived.Test.YtbpapaponnfagaaGreatDoorLBlTok
set_option linter.unusedSimpArgs false
set_option linter.unusedVariables false
set_option maxRecDepth 100000
set_option maxHeartbeats 4000000
namespace Go.Proofs.YtbpapaponnfagaaGreatDoor
open Go.ChangeShapes Go.WideShapes Go.ChangeAt Go.RowKit Go.Joins Go.Deep
open GoRep (rep bulk)

theorem b_i_Digits (n : Int) : BCalls Tryz.prog 206 [.c (.int .i64 n)] (.c (.str (⟨(Lib.itoa n).toArray⟩ : ByteArray))) [] := by
  refine bc0 [e_strconv_Itoa] [] [] [] L0 Tryz.func206 (fun hwf => ?_)
  refine Eq.mpr (β := (True ∧ (True ∧ ((True ∧ true = true) ∧ (True ∧ (rS (⟨(Lib.itoa n).toArray⟩ : ByteArray) (⟨(Lib.itoa n).toArray⟩ : ByteArray))))))) (by kernel_rfl) ?_
  simp only [btw_iff, btw_not, flagsOk, Bool.not_true, Bool.not_false, SI2A, eq_self]
  repeat' (first | apply And.intro | intro _)
  all_goals first
    | (with_reducible trivial)
    | omega
    | (with_reducible assumption)
theorem envNil {X : List Nat} {W : World} {E : Env} (h : RepM X W E []) : E = [] := List.length_eq_zero_iff.1 h.len.symm
theorem num_end {X : List Nat} {W W' : World} (s : ByteArray) (hX : ∀ b ∈ X, b < W.heap.size) (g : Grow W [] W' []) {n : Int} {b : Bool} (hn : n = numV s) (hb : b = numB s) :
    ∃ v E', Ending.returned (.tuple #[.int .i64 n, .bool b]) = Ending.returned v ∧ Grow W [] W' E' ∧ RepM X W' E' [] ∧ RepV X W' E' [] (.tp [.c (.int .i64 (numV s)), .c (.bool (numB s))]) v := by
  subst hn
  subst hb
  refine ⟨_, [], rfl, g, nilM (fun b hb => Nat.lt_of_lt_of_le (hX b hb) g.size), _, rfl, _, _, rfl, ⟨rfl, ?_⟩, _, _, rfl, rfl, rfl⟩
  cases h : numB s with
  | true => have := num_iff h; exact wf64 (by omega) (by omega)
  | false => rw [num_no h]; exact wf64 (by omega) (by omega)
theorem b_i_Number (s : ByteArray) (hpre : s.size ≤ 1048576) : BCalls Tryz.prog 184 [.c (.str s)] (.tp [.c (.int .i64 (numV s)), .c (.bool (numB s))]) [] := by
  intro X W vs hX hgl hr
  obtain ⟨v, r, rfl, ⟨rfl, hw⟩, hn⟩ := hr
  obtain rfl : r = [] := hn
  show Calls _ _ #[.string s] W _
  go_enter Tryz.func184, Tryz.ntmps184
  go_wp2_with fail
  refine (atoi_calls s hpre W hgl).mono fun e W1 h => ?_
  obtain ⟨g1, hc⟩ := h
  have hX1 : ∀ b ∈ X, b < W1.heap.size := fun b hb => Nat.lt_of_lt_of_le (hX b hb) g1.size
  have hno : (∀ n, Lib.atoiAll s.data.toList ≠ .ok n) → numB s = false := fun ha => by
    cases hb : numB s with
    | false => rfl
    | true => exact absurd (num_iff hb).2.2.2 (ha _)
  rcases hc with ⟨n, ha, rfl⟩ | ⟨ha, n, t, u, rfl⟩
  · obtain ⟨b1, b2⟩ := Lib.atoiAll_bounds ha
    have hn : (Lit.int .i64 n).wf = true := wf64 b1 b2
    go_wp2_with fail
    refine (b_i_within n 0 999999999 X W1 _ hX1 (hgl.grow g1) ⟨_, _, rfl, ⟨rfl, hn⟩, _, _, rfl, ⟨rfl, by decide⟩, _, _, rfl, ⟨rfl, by decide⟩, rfl⟩).mono fun e W2 h => ?_
    obtain ⟨v2, E2, rfl, g2, m2, hv2⟩ := h
    obtain rfl := envNil m2
    obtain rfl : v2 = .bool (btw n 0 999999999) := hv2
    have g3 := g1.trans g2
    cases hb : btw n 0 999999999 with
    | false =>
      go_wp2_with fail
      go_ret2
      have hf : numB s = false := by
        cases hq : numB s with
        | false => rfl
        | true =>
          have h1 := num_iff hq
          rw [ha] at h1
          obtain rfl : n = numV s := by injection h1.2.2.2
          have := btw_not.1 hb
          omega
      exact num_end s hX g3 (num_no hf).symm hf.symm
    | true =>
      have hb' := btw_iff.1 hb
      go_wp2_with fail
      refine (b_i_Digits n X W2 _ (fun b hb => Nat.lt_of_lt_of_le (hX b hb) g3.size) (hgl.grow g3) ⟨_, _, rfl, ⟨rfl, hn⟩, rfl⟩).mono fun e W3 h => ?_
      obtain ⟨v3, E3, rfl, g4, m3, hv3⟩ := h
      obtain rfl := envNil m3
      obtain rfl : v3 = .string ⟨(Lib.itoa n).toArray⟩ := hv3.1
      have g5 := g3.trans g4
      by_cases he : (⟨(Lib.itoa n).toArray⟩ : ByteArray) = s
      · have h1 := num_of (t := s) hb'.1 hb'.2 (by rw [← he])
        go_wp2_with fail
        go_ret2
        exact num_end s hX g5 h1.2.symm h1.1.symm
      · have hf : numB s = false := by
          cases hq : numB s with
          | false => rfl
          | true =>
            have h1 := num_iff hq
            rw [ha] at h1
            obtain rfl : n = numV s := by injection h1.2.2.2
            exact absurd (by apply ByteArray.ext; rw [h1.2.2.1]) he
        have hq : (Lib.itoa n == s.toList) = false := by
          rw [beq_eq_false_iff_ne]
          intro q
          exact he (by apply ByteArray.ext; rw [q, ByteArray.toList_eq])
        go_wp2_with fail
        go_ret2
        exact num_end s hX g5 (num_no hf).symm hf.symm
  · go_wp2_with fail
    go_ret2
    exact num_end s hX g1 (num_no (hno ha)).symm (hno ha).symm
def e_i_Number : Entry Tryz.prog := ⟨184, [.v tyStr], fun x => ByteArray.size x.1 ≤ 1048576, fun x => .tp [.c (.int .i64 (numV x.1)), .c (.bool (numB x.1))], fun _ => [], fun x hx => b_i_Number x.1 hx, Tryz.call184⟩

def L_s_Number (s : ByteArray) : Nat → List AV → Mem → LoopA
  | 5, tm, M => ⟨Nat, fun y => (anyR (setA tm [(2, .any), (3, .any), (4, .c (.int .i64 ((valD 0 (List.take y s.data.toList) : Nat) : Int))), (5, .c (.int .i64 ((y : Nat) : Int)))]) 14 24, M), fun y => (y ≤ ByteArray.size s ∧ ∀ j, j < y → 48 ≤ byteAt s j ∧ byteAt s j ≤ 57), fun y => (ByteArray.size s - y)⟩
  | _, _, _ => ⟨Unit, fun _ => ([], []), fun _ => False, fun _ => 0⟩
def k026vix (s : ByteArray) : Prop := (T2 ((((true = true ∧ leC (.int .i64 0) (.int .i64 (numV s))) ∧ (true = true ∧ leC (.bool false) (.bool (numB s))) ∧ True)) ∧ true = true))
def k126vix (y0 : Nat) (s : ByteArray) : Prop := ((0 : Int) ≤ ((y0 : Nat) : Int) ∧ (((y0 : Nat) : Int) : Int) < ((ByteArray.size s : Nat) : Int))
theorem b_s_Number (s : ByteArray) (hpre : ByteArray.size s ≤ 1048576) : BCalls Tryz.prog 186 [.c (.str s)] (.tp [.c (.int .i64 (numV s)), .c (.bool (numB s))]) [] := by
  refine bc0 [e_s_Digits] [] [] [] (L_s_Number s) Tryz.func186 (fun hwf => ?_)
  refine Eq.mpr (β := (T6 (bif (ltI ((ByteArray.size s : Nat) : Int) 1) then (True ∧ (k026vix s)) else (T4 (bif (gtI ((ByteArray.size s : Nat) : Int) 9) then (k026vix s) else (T2 ((∃ q : Nat, (q ≤ ByteArray.size s ∧ ∀ j, j < q → 48 ≤ byteAt s j ∧ byteAt s j ≤ 57) ∧ ((lxs [.c (.str s), .tp []] (True ∧ True ∧ leV (.c (.int .i64 0)) (.c (.int .i64 ((valD 0 (List.take q s.data.toList) : Nat) : Int))) ∧ leV (.c (.int .i64 0)) (.c (.int .i64 ((q : Nat) : Int))) ∧ lxs [.c (.str s), .c (.int .i64 ((ByteArray.size s : Nat) : Int)), .c (.bool (ltI ((ByteArray.size s : Nat) : Int) 1)), .c (.bool false), .c (.str s), .c (.int .i64 ((ByteArray.size s : Nat) : Int)), .c (.bool (gtI ((ByteArray.size s : Nat) : Int) 9)), .c (.bool false)] (TN 24 (lxs [.tp [], .tp [], .tp [], .tp [], .tp []] True)))) ∧ (True) ∧ true = true)) ∧ ∀ y0 : Nat, (y0 ≤ ByteArray.size s ∧ ∀ j, j < y0 → 48 ≤ byteAt s j ∧ byteAt s j ≤ 57) → (T4 (bif (ltI ((y0 : Nat) : Int) ((ByteArray.size s : Nat) : Int)) then (T2 ((k126vix y0 s) ∧ (T2 (bif (ltI (byteAt s (Int.toNat ((y0 : Nat) : Int))) 48) then (True ∧ (k026vix s)) else (T2 ((k126vix y0 s) ∧ (T2 (bif (gtI (byteAt s (Int.toNat ((y0 : Nat) : Int))) 57) then (k026vix s) else (T4 ((k126vix y0 s) ∧ (True ∧ (true = true ∧ (T5 (∃ y0' : Nat, (y0' ≤ ByteArray.size s ∧ ∀ j, j < y0' → 48 ≤ byteAt s j ∧ byteAt s j ≤ 57) ∧ (ByteArray.size s - y0') < (ByteArray.size s - y0) ∧ ((lxs [.c (.str s), .tp []] (True ∧ True ∧ leV (.c (.int .i64 (IntKind.wrap .i64 ((IntKind.wrap .i64 (10 * ((valD 0 (List.take y0 s.data.toList) : Nat) : Int))) + (IntKind.wrap .i64 (IntKind.wrap .u8 ((byteAt s (Int.toNat ((y0 : Nat) : Int))) - 48))))))) (.c (.int .i64 ((valD 0 (List.take y0' s.data.toList) : Nat) : Int))) ∧ leV (.c (.int .i64 (IntKind.wrap .i64 (((y0 : Nat) : Int) + 1)))) (.c (.int .i64 ((y0' : Nat) : Int))) ∧ lxs [.c (.str s), .c (.int .i64 ((ByteArray.size s : Nat) : Int)), .c (.bool (ltI ((ByteArray.size s : Nat) : Int) 1)), .c (.bool false), .c (.str s), .c (.int .i64 ((ByteArray.size s : Nat) : Int)), .c (.bool (gtI ((ByteArray.size s : Nat) : Int) 9)), .c (.bool false)] (TN 24 (lxs [.tp [], .tp [], .tp [], .tp [], .tp []] True)))) ∧ (True) ∧ true = true))))))))))))))) else (True ∧ ((nonneg ((valD 0 (List.take y0 s.data.toList) : Nat) : Int) ∧ true = true) ∧ (T2 (bif (!eqS (⟨(Lib.itoa ((valD 0 (List.take y0 s.data.toList) : Nat) : Int)).toArray⟩ : ByteArray) s) then (k026vix s) else (T3 ((((true = true ∧ leC (.int .i64 ((valD 0 (List.take y0 s.data.toList) : Nat) : Int)) (.int .i64 (numV s))) ∧ (true = true ∧ leC (.bool true) (.bool (numB s))) ∧ True)) ∧ true = true))))))))))))))) (by kernel_rfl) ?_
  unfold k126vix k026vix T2 T3 T4 T5 T6
  have hsz : ByteArray.size s ≤ 1048576 := hpre
  simp only [btw_iff, btw_not, flagsOk, Bool.not_true, Bool.not_false, SI2A, eq_self]
  repeat' (first | apply And.intro | intro _)
  all_goals first
    | (with_reducible trivial)
    | omega
    | (with_reducible assumption)
    | (show 0 ≤ ((_ : Nat) : Int); omega)
    | exact (num_no (nno1 (.inl (by omega)))).symm
    | exact (nno1 (.inl (by omega))).symm
    | exact (num_no (nno1 (.inr (.inl (by omega))))).symm
    | exact (nno1 (.inr (.inl (by omega)))).symm
    | exact ⟨0, ⟨Nat.zero_le _, fun j hj => absurd hj (Nat.not_lt_zero j)⟩, rfl, rfl⟩
    | exact num_step (by omega) (by assumption) (by omega) (by omega) (by omega)
    | exact (num_no (nno1 (.inr (.inr ⟨_, Int.ofNat_lt.1 (by assumption), fun q => by omega⟩)))).symm
    | exact (nno1 (.inr (.inr ⟨_, Int.ofNat_lt.1 (by assumption), fun q => by omega⟩))).symm
    | (rename_i y hy hge hd; exact (num_no (num_not (y := y) (by omega) hd)).symm)
    | (rename_i y hy hge hd; exact (num_not (y := y) (by omega) hd).symm)
    | (rename_i y hy hge hd; exact (num_yes (by omega) (by omega) hy (by omega) hd).1)
    | (rename_i y hy hge hd; exact (num_yes (by omega) (by omega) hy (by omega) hd).2)
def e_s_Number : Entry Tryz.prog := ⟨186, [.v tyStr], fun x => ByteArray.size x.1 ≤ 1048576, fun x => .tp [.c (.int .i64 (numV x.1)), .c (.bool (numB x.1))], fun _ => [], fun x hx => b_s_Number x.1 hx, Tryz.call186⟩
end Go.Proofs.YtbpapaponnfagaaGreatDoor
