/-
  The reference's ReadFilter.
  No condition but what the arguments' cells hold. Printed by vcgen.py.
-/
import Derived.Test.YtoigkpkafgjeaaaABlR8
set_option linter.unusedSimpArgs false
set_option linter.unusedVariables false
set_option maxRecDepth 100000
set_option maxHeartbeats 4000000
namespace Go.Proofs.Ytoigkpkafgjeaaa
open Go.ChangeShapes Go.WideShapes Go.ChangeAt Go.RowKit Go.Joins Go.Deep
open GoRep (rep bulk)

theorem leB_br6 {a b : Bool} : leB (.box [.bool a, .row 3 0]) (.box [.bool b, .row 3 0]) = (a = b) := by
  refine propext ⟨fun h => ?_, fun h => ?_⟩
  · have h := leB_eq h
    injection h with h
    injection h with h _
    injection h
  · cases h
    exact Eq.mpr leB_refl trivial
theorem leB_sc {a b c d : Int} : leB (.box [.int .i64 a, .row 5 0, .int .i64 c]) (.box [.int .i64 b, .row 5 0, .int .i64 d]) = (a = b ∧ c = d) := by
  refine propext ⟨fun h => ?_, fun h => ?_⟩
  · have h := leB_eq h
    injection h with h
    injection h with h1 h
    injection h with _ h
    injection h with h2 _
    injection h1 with _ h1
    injection h2 with _ h2
    exact ⟨h1, h2⟩
  · obtain ⟨h1, h2⟩ := h
    cases h1
    cases h2
    exact Eq.mpr leB_refl trivial
/-- the last of the first n scopes' words that is this one; 0: none -/
def kd6 (w : ByteArray) : Nat → Int
  | 0 => 0
  | n + 1 => if eqS (upT (nth_String scW (n + 1))) w = true then ((n + 1 : Nat) : Int) else kd6 w n
theorem kd6_y {w : ByteArray} {j : Nat} (h : upT (nth_String scW (j + 1)) = w) : ((j + 1 : Nat) : Int) = kd6 w (j + 1) := (if_pos (eqS_true.2 h)).symm
theorem kd6_n {w : ByteArray} {j : Nat} (h : ¬ upT (nth_String scW (j + 1)) = w) : kd6 w j = kd6 w (j + 1) := (if_neg (by rw [eqS_false.2 h]; decide)).symm
/-- the word of a scope, what is read behind it -/
def wd6 (r : GL6In) : ByteArray := upT (tk6T (tk6R r 3) 1)
def rb6 (r : GL6In) : GL6In := tk6R (tk6R r 3) 1
def nm6 (r : GL6In) : List ByteArray := if 3 ≤ kd6 (wd6 r) 4 then at6T (rb6 r) else []
def rc6 (r : GL6In) : GL6In := if 3 ≤ kd6 (wd6 r) 4 then at6R (rb6 r) else rb6 r
def bi6 (r : GL6In) : Int × Bool := bt6 (at6T (rc6 r)) (-1) 0
def re6 (r : GL6In) : GL6In := tk6R (at6R (rc6 r)) 4
def sc6 (r : GL6In) : GScope := (kd6 (wd6 r) 4, nm6 r, (bi6 r).1)
def sr6 (r : GL6In) : GL6In := ((re6 r).1, (re6 r).2.1, (re6 r).2.2 || !(bi6 r).2)
theorem rb6_ok {r : GL6In} (h : ok6 r) : ok6 (rb6 r) := tk6_ok 1 (tk6_ok 3 h)
theorem rc6_ok {r : GL6In} (h : ok6 r) : ok6 (rc6 r) := by
  unfold rc6
  split
  · exact at6_ok (rb6_ok h)
  · exact rb6_ok h
theorem re6_ok {r : GL6In} (h : ok6 r) : ok6 (re6 r) := tk6_ok 4 (at6_ok (rc6_ok h))
theorem sr6_ok {r : GL6In} (h : ok6 r) : ok6 (sr6 r) := re6_ok h
def go6 (r : GL6In) : Bool := ltI r.2.1 ((r.1.length : Nat) : Int) && !r.2.2
def ms6 (r : GL6In) : Nat := 2 * (((r.1.length : Nat) : Int) - r.2.1).toNat + (if r.2.2 = true then 0 else 1)
def rl6 : Nat → GL6In → List GScope × GL6In
  | 0, r => ([], r)
  | n + 1, r => if go6 r = true then (sc6 r :: (rl6 n (sr6 r)).1, (rl6 n (sr6 r)).2) else ([], r)
theorem tk6_ms (r : GL6In) (k : Int) : (tk6R r k).1 = r.1 ∧ r.2.1 ≤ (tk6R r k).2.1 ∧ (r.2.1 < (tk6R r k).2.1 ∨ (tk6R r k).2.2 = true) ∧ (r.2.2 = true → (tk6R r k).2.2 = true) := by
  unfold tk6R
  split
  · exact ⟨rfl, by show r.2.1 ≤ r.2.1 + 1; omega, .inl (by show r.2.1 < r.2.1 + 1; omega), fun h => h⟩
  · exact ⟨rfl, Int.le_refl _, .inr rfl, fun _ => rfl⟩
theorem at6_ms {r : GL6In} : (at6R r).1 = r.1 ∧ r.2.1 ≤ (at6R r).2.1 ∧ (r.2.2 = true → (at6R r).2.2 = true) := by
  have h1 := tk6_ms r 3
  have h2 := tk6_ms (am6 r (atN (ag6 r))) 4
  unfold at6R
  refine ⟨h2.1.trans h1.1, ?_, fun h => h2.2.2.2 (h1.2.2.2 h)⟩
  have h3 : (am6 r (atN (ag6 r))).2.1 = (tk6R r 3).2.1 + ((atN (ag6 r) : Nat) : Int) := rfl
  omega
theorem sr6_ms {r : GL6In} : (sr6 r).1 = r.1 ∧ r.2.1 ≤ (sr6 r).2.1 ∧ (r.2.1 < (sr6 r).2.1 ∨ (sr6 r).2.2 = true) := by
  have h1 := tk6_ms r 3
  have h2 := tk6_ms (tk6R r 3) 1
  have h3 : (rc6 r).1 = (rb6 r).1 ∧ (rb6 r).2.1 ≤ (rc6 r).2.1 ∧ ((rb6 r).2.2 = true → (rc6 r).2.2 = true) := by
    unfold rc6
    split
    · exact at6_ms
    · exact ⟨rfl, Int.le_refl _, fun h => h⟩
  have h4 := at6_ms (r := rc6 r)
  have h5 := tk6_ms (at6R (rc6 r)) 4
  have e2 : rb6 r = tk6R (tk6R r 3) 1 := rfl
  have e5 : re6 r = tk6R (at6R (rc6 r)) 4 := rfl
  rw [← e2] at h2
  rw [← e5] at h5
  refine ⟨h5.1.trans (h4.1.trans (h3.1.trans (h2.1.trans h1.1))), ?_, ?_⟩
  · show r.2.1 ≤ (re6 r).2.1
    omega
  · rcases h1.2.2.1 with h | h
    · left
      show r.2.1 < (re6 r).2.1
      omega
    · right
      show ((re6 r).2.2 || _) = true
      rw [h5.2.2.2 (h4.2.2 (h3.2.2 (h2.2.2.2 h))), Bool.true_or]
theorem sr6_lt {r : GL6In} (ho : ok6 r) (h : go6 r = true) : ms6 (sr6 r) < ms6 r := by
  obtain ⟨h1, h2, h3⟩ := sr6_ms (r := r)
  have h4 := (sr6_ok ho).1
  rw [h1] at h4
  unfold go6 at h
  rw [Bool.and_eq_true, Bool.not_eq_true'] at h
  unfold ms6
  rw [h1, h.2]
  have h5 : (if (sr6 r).2.2 = true then 0 else 1) ≤ 1 := by split <;> decide
  rcases h3 with h3 | h3
  · have : 2 * (((r.1.length : Nat) : Int) - (sr6 r).2.1).toNat + 1 ≤ 2 * (((r.1.length : Nat) : Int) - r.2.1).toNat := by omega
    exact Nat.lt_of_le_of_lt (Nat.add_le_add_left h5 _) (Nat.lt_of_le_of_lt this (Nat.lt_succ_self _))
  · rw [h3]
    have : 2 * (((r.1.length : Nat) : Int) - (sr6 r).2.1).toNat ≤ 2 * (((r.1.length : Nat) : Int) - r.2.1).toNat := by omega
    exact Nat.lt_succ_of_le this
theorem rl6_fuel : ∀ {n m : Nat} {r : GL6In}, ok6 r → ms6 r ≤ n → ms6 r ≤ m → rl6 n r = rl6 m r
  | 0, 0, _, _, _, _ => rfl
  | 0, m + 1, r, ho, h, _ => by
    unfold rl6
    rw [if_neg fun hg => by have := sr6_lt ho hg; omega]
  | n + 1, 0, r, ho, _, h => by
    unfold rl6
    rw [if_neg fun hg => by have := sr6_lt ho hg; omega]
  | n + 1, m + 1, r, ho, h1, h2 => by
    unfold rl6
    split
    · rename_i hg
      have := sr6_lt ho hg
      rw [rl6_fuel (n := n) (m := m) (sr6_ok ho) (by omega) (by omega)]
    · rfl
def rs6 (r : GL6In) : List GScope × GL6In := rl6 (ms6 r) r
theorem rs6_no {r : GL6In} (h : go6 r = false) : rs6 r = ([], r) := by
  unfold rs6
  cases ms6 r with
  | zero => rfl
  | succ n =>
    unfold rl6
    rw [if_neg (by rw [h]; decide)]
theorem rs6_go {r : GL6In} (ho : ok6 r) (h : go6 r = true) : rs6 r = (sc6 r :: (rs6 (sr6 r)).1, (rs6 (sr6 r)).2) := by
  have hl := sr6_lt ho h
  obtain ⟨n, hn⟩ : ∃ n, ms6 r = n + 1 := ⟨ms6 r - 1, by omega⟩
  unfold rs6
  rw [hn]
  show (if go6 r = true then _ else _) = _
  rw [if_pos h, rl6_fuel (n := n) (m := ms6 (sr6 r)) (sr6_ok ho) (by omega) (Nat.le_refl _)]
def r60 (l : List GToken) : GL6In := tk6R (l, 0, false) 1
def w60 (l : List GToken) : ByteArray := upT (tk6T (l, 0, false) 1)
def on6 (l : List GToken) : Bool := eqS (w60 l) (⟨#[83, 69, 84]⟩ : ByteArray)
def res6 (l : List GToken) : List GScope × GL6In := if on6 l = true then rs6 (r60 l) else ([], r60 l)
def f6 (l : List GToken) : GFilter := (on6 l, (res6 l).1)
def ok6B (l : List GToken) : Bool := (on6 l || eqS (w60 l) (⟨#[78, 79, 78, 69]⟩ : ByteArray)) && (!(res6 l).2.2.2 && (!ltI (res6 l).2.2.1 ((l.length : Nat) : Int) && filterOk (f6 l)))
def rdS (l : List GToken) : GFilter := if ok6B l = true then f6 l else (false, [])
def rsI (l : List GToken) (o : List GScope) (r : GL6In) : Prop := (ok6 r ∧ (r.1 = l ∧ o.length + (((l.length : Nat) : Int) - r.2.1).toNat ≤ l.length + (if r.2.2 = true then 1 else 0))) ∧ (if on6 l = true then (o ++ (rs6 r).1, (rs6 r).2) = rs6 (r60 l) else o = [] ∧ r = r60 l)
section
variable {l : List GToken} {o : List GScope} {r : GL6In} {j : Nat} {w : ByteArray} {b : Bool}
theorem ok60 (hp : l.length ≤ 1048576) : ok6 (l, 0, false) := ⟨⟨Int.le_refl _, Int.natCast_nonneg _⟩, hp⟩
theorem q_ok (hi : rsI l o r) : ok6 r := hi.1.1
theorem q_off (h : ¬ upT (tk6T (l, 0, false) 1) = (⟨#[83, 69, 84]⟩ : ByteArray)) : on6 l = false := eqS_false.2 h
theorem q_no (h : ¬ upT (tk6T (l, 0, false) 1) = (⟨#[83, 69, 84]⟩ : ByteArray)) (h2 : ¬ upT (tk6T (l, 0, false) 1) = (⟨#[78, 79, 78, 69]⟩ : ByteArray)) : ok6B l = false := by
  have h3 : eqS (w60 l) (⟨#[78, 79, 78, 69]⟩ : ByteArray) = false := eqS_false.2 h2
  unfold ok6B
  rw [q_off h, h3]
  rfl
theorem q_rd (h : ok6B l = false) : rdS l = (false, []) := if_neg (by rw [h]; decide)
theorem q_0 (hp : l.length ≤ 1048576) : ∃ q : List GScope × GL6In, rsI l q.1 q.2 ∧ ((tk6R (l, 0, false) 1).1, (tk6R (l, 0, false) 1).2.1, (tk6R (l, 0, false) 1).2.2) = (q.2.1, q.2.2.1, q.2.2.2) ∧ eqS (upT (tk6T (l, 0, false) 1)) (⟨#[83, 69, 84]⟩ : ByteArray) = on6 l ∧ ([] : List GScope) = q.1 := by
  refine ⟨([], r60 l), ⟨⟨tk6_ok 1 (ok60 hp), (tk6_ms _ 1).1, ?_⟩, ?_⟩, rfl, rfl, rfl⟩
  · have h : (0 : Int) ≤ (r60 l).2.1 := (tk6_ms (l, 0, false) 1).2.1
    refine Nat.le_trans ?_ (Nat.le_add_right _ _)
    show 0 + (((l.length : Nat) : Int) - (r60 l).2.1).toNat ≤ l.length
    omega
  · split
    · rfl
    · exact ⟨rfl, rfl⟩
theorem q_go (hi : rsI l o r) (h1 : r.2.1 < ((l.length : Nat) : Int)) (h2 : r.2.2 = false) : go6 r = true := by
  unfold go6
  rw [hi.1.2.1, ltI_true.2 h1, h2]
  rfl
theorem q_sc (h : ((j + 1 : Nat) : Int) ≤ 4) : ((j + 1 : Nat) : Int) < ((scW.length : Nat) : Int) := by
  have : scW.length = 5 := rfl
  omega
theorem q_k0 : ∃ q : Nat, q ≤ 4 ∧ (1 : Int) = ((q + 1 : Nat) : Int) ∧ (0 : Int) = kd6 w q := ⟨0, Nat.zero_le _, rfl, rfl⟩
theorem q_y (hc : ((j + 1 : Nat) : Int) ≤ 4) (h : upT (nth_String scW (j + 1)) = w) : ∃ y, y ≤ 4 ∧ 4 - y < 4 - j ∧ IntKind.i64.wrap (((j + 1 : Nat) : Int) + 1) = ((y + 1 : Nat) : Int) ∧ ((j + 1 : Nat) : Int) = kd6 w y := ⟨j + 1, by omega, by omega, wrapN (by unfold maxLen; omega), kd6_y h⟩
theorem q_n (hc : ((j + 1 : Nat) : Int) ≤ 4) (h : ¬ upT (nth_String scW (j + 1)) = w) : ∃ y, y ≤ 4 ∧ 4 - y < 4 - j ∧ IntKind.i64.wrap (((j + 1 : Nat) : Int) + 1) = ((y + 1 : Nat) : Int) ∧ kd6 w j = kd6 w y := ⟨j + 1, by omega, by omega, wrapN (by unfold maxLen; omega), kd6_n h⟩
theorem q_m (hp : l.length ≤ 1048576) (hi : rsI l o r) {x : GScope} : o.length + [x].length ≤ rowMax := by
  have h := hi.1.2.2
  have h5 : (if r.2.2 = true then 1 else 0) ≤ 1 := by split <;> decide
  show o.length + 1 ≤ rowMax
  unfold rowMax
  omega
theorem q_st (hi : rsI l o r) (hg : go6 r = true) (hn : on6 l = true) : rsI l (o ++ [sc6 r]) (sr6 r) ∧ ms6 (sr6 r) < ms6 r := by
  have hg' := hg
  unfold go6 at hg'
  rw [Bool.and_eq_true, Bool.not_eq_true'] at hg'
  obtain ⟨⟨h1, h2, h3⟩, h4⟩ := hi
  obtain ⟨m1, m2, m3⟩ := sr6_ms (r := r)
  have ho := sr6_ok h1
  refine ⟨⟨⟨ho, m1.trans h2, ?_⟩, ?_⟩, sr6_lt h1 hg⟩
  · rw [hg'.2] at h3
    have h3 : o.length + (((l.length : Nat) : Int) - r.2.1).toNat ≤ l.length + 0 := h3
    have h6 := ho.1.2
    rw [m1, h2] at h6
    rw [List.length_append]
    show o.length + 1 + _ ≤ _
    rcases m3 with m3 | m3
    · refine Nat.le_trans ?_ (Nat.le_add_right _ _)
      omega
    · rw [if_pos m3]
      omega
  · rw [if_pos hn] at h4 ⊢
    rw [rs6_go h1 hg] at h4
    rw [List.append_assoc]
    exact h4
theorem q_s1 (hi : rsI l o r) (h1 : r.2.1 < ((l.length : Nat) : Int)) (h2 : r.2.2 = false) (hn : on6 l = true) (hj : j ≤ 4) (hj2 : ¬ ((j + 1 : Nat) : Int) ≤ 4) (hk : 3 ≤ kd6 (upT (tk6T (tk6R r 3) 1)) j) (he : (tk6R (at6R (at6R (tk6R (tk6R r 3) 1))) 4).2.2 = b) : ∃ q : List GScope × GL6In, rsI l q.1 q.2 ∧ ms6 q.2 < ms6 r ∧ ((tk6R (at6R (at6R (tk6R (tk6R r 3) 1))) 4).1, (tk6R (at6R (at6R (tk6R (tk6R r 3) 1))) 4).2.1, b || !(bt6 (at6T (at6R (tk6R (tk6R r 3) 1))) (-1) 0).2) = (q.2.1, q.2.2.1, q.2.2.2) ∧ o ++ [(kd6 (upT (tk6T (tk6R r 3) 1)) j, at6T (tk6R (tk6R r 3) 1), (bt6 (at6T (at6R (tk6R (tk6R r 3) 1))) (-1) 0).1)] = q.1 := by
  obtain rfl : j = 4 := by omega
  have e1 : rc6 r = at6R (tk6R (tk6R r 3) 1) := if_pos hk
  have e2 : nm6 r = at6T (tk6R (tk6R r 3) 1) := if_pos hk
  have hs := q_st hi (q_go hi h1 h2) hn
  refine ⟨(o ++ [sc6 r], sr6 r), hs.1, hs.2, ?_, ?_⟩
  · rw [← he]
    show _ = ((re6 r).1, (re6 r).2.1, (re6 r).2.2 || !(bi6 r).2)
    unfold re6 bi6
    rw [e1]
  · show _ = o ++ [(kd6 (wd6 r) 4, nm6 r, (bi6 r).1)]
    unfold bi6
    rw [e1, e2]
    rfl
theorem q_s2 (hi : rsI l o r) (h1 : r.2.1 < ((l.length : Nat) : Int)) (h2 : r.2.2 = false) (hn : on6 l = true) (hj : j ≤ 4) (hj2 : ¬ ((j + 1 : Nat) : Int) ≤ 4) (hk : ¬ 3 ≤ kd6 (upT (tk6T (tk6R r 3) 1)) j) (he : (tk6R (at6R (tk6R (tk6R r 3) 1)) 4).2.2 = b) : ∃ q : List GScope × GL6In, rsI l q.1 q.2 ∧ ms6 q.2 < ms6 r ∧ ((tk6R (at6R (tk6R (tk6R r 3) 1)) 4).1, (tk6R (at6R (tk6R (tk6R r 3) 1)) 4).2.1, b || !(bt6 (at6T (tk6R (tk6R r 3) 1)) (-1) 0).2) = (q.2.1, q.2.2.1, q.2.2.2) ∧ o ++ [(kd6 (upT (tk6T (tk6R r 3) 1)) j, [], (bt6 (at6T (tk6R (tk6R r 3) 1)) (-1) 0).1)] = q.1 := by
  obtain rfl : j = 4 := by omega
  have e1 : rc6 r = tk6R (tk6R r 3) 1 := if_neg hk
  have e2 : nm6 r = [] := if_neg hk
  have hs := q_st hi (q_go hi h1 h2) hn
  refine ⟨(o ++ [sc6 r], sr6 r), hs.1, hs.2, ?_, ?_⟩
  · rw [← he]
    show _ = ((re6 r).1, (re6 r).2.1, (re6 r).2.2 || !(bi6 r).2)
    unfold re6 bi6
    rw [e1]
  · show _ = o ++ [(kd6 (wd6 r) 4, nm6 r, (bi6 r).1)]
    unfold bi6
    rw [e1, e2]
    rfl
theorem q_e (hi : rsI l o r) (h : on6 l = true → go6 r = false) : (o, r) = res6 l := by
  have h4 := hi.2
  unfold res6
  split
  · rename_i hn
    rw [if_pos hn, rs6_no (h hn), List.append_nil] at h4
    exact h4
  · rename_i hn
    rw [if_neg hn] at h4
    rw [h4.1, h4.2]
theorem q_e1 (hi : rsI l o r) (h : ¬ r.2.1 < ((l.length : Nat) : Int)) : (o, r) = res6 l := q_e hi fun _ => by
  unfold go6
  rw [hi.1.2.1, ltI_false.2 h]
  rfl
theorem q_e2 (hi : rsI l o r) (h : r.2.2 = true) : (o, r) = res6 l := q_e hi fun _ => by
  unfold go6
  rw [h]
  exact Bool.and_false _
theorem q_e3 (hi : rsI l o r) (h : on6 l = false) : (o, r) = res6 l := q_e hi fun hn => by rw [h] at hn; cases hn
theorem q_f1 (e : (o, r) = res6 l) (h : r.2.2 = true) : ok6B l = false := by
  unfold ok6B
  rw [← e, h]
  exact Bool.and_false _
theorem q_f2 (e : (o, r) = res6 l) (h : r.2.1 < ((l.length : Nat) : Int)) : ok6B l = false := by
  unfold ok6B
  rw [← e, ltI_true.2 h]
  show (_ && (_ && false)) = false
  rw [Bool.and_false, Bool.and_false]
theorem q_f3 (e : (o, r) = res6 l) (h : filterOk (on6 l, o) = false) : ok6B l = false := by
  have h : filterOk (f6 l) = false := by
    unfold f6
    rw [← e]
    exact h
  unfold ok6B
  rw [h, Bool.and_false, Bool.and_false, Bool.and_false]
theorem q_w1 (h : upT (tk6T (l, 0, false) 1) = (⟨#[83, 69, 84]⟩ : ByteArray)) : (on6 l || eqS (w60 l) (⟨#[78, 79, 78, 69]⟩ : ByteArray)) = true := by
  have : on6 l = true := eqS_true.2 h
  rw [this]
  rfl
theorem q_w2 (h : upT (tk6T (l, 0, false) 1) = (⟨#[78, 79, 78, 69]⟩ : ByteArray)) : (on6 l || eqS (w60 l) (⟨#[78, 79, 78, 69]⟩ : ByteArray)) = true := by
  have : eqS (w60 l) (⟨#[78, 79, 78, 69]⟩ : ByteArray) = true := eqS_true.2 h
  rw [this]
  exact Bool.or_true _
theorem q_t (e : (o, r) = res6 l) (hw : (on6 l || eqS (w60 l) (⟨#[78, 79, 78, 69]⟩ : ByteArray)) = true) (h1 : r.2.2 = false) (h2 : ¬ r.2.1 < ((l.length : Nat) : Int)) (h3 : filterOk (on6 l, o) = true) : ok6B l = true ∧ rdS l = (on6 l, o) := by
  have hf : f6 l = (on6 l, o) := by
    unfold f6
    rw [← e]
  have ho : ok6B l = true := by
    unfold ok6B
    rw [hw, hf, h3, ← e, h1, ltI_false.2 h2]
    rfl
  exact ⟨ho, (if_pos ho).trans hf⟩
end
attribute [local irreducible] tk6R at6R tk6T at6T bt6 kd6 res6 ms6 rs6 sr6 on6 ok6B rdS filterOk rsI go6 ok6 upT
def L_s_ReadFilter (list : List GToken) : Nat → List AV → Mem → LoopA
  | 6, tm, M => ⟨(List GScope) × GL6In, fun y => (anyR (anyR (setA tm []) 7 5) 28 70, setM M [(1, .box [.hs .no tyToken y.2.1, .int .i64 y.2.2.1, .bool y.2.2.2]), (2, .box [.bool (on6 list), .row 3 0]), (3, .row tyScope y.1 0 0 none)]), fun y => (rsI list y.1 y.2), fun y => (ms6 y.2)⟩
  | 11, tm, M => ⟨Nat, fun y => (anyR (setA tm [(9, .c (.int .i64 ((y + 1 : Nat) : Int)))]) 52 13, setM M [(4, .box [.int .i64 (kd6 (tmS tm 8) y), .row 5 0, .int .i64 0]), (5, .row tyStr ([] : List ByteArray) 0 0 none)]), fun y => (y ≤ 4), fun y => (4 - y)⟩
  | _, _, _ => ⟨Unit, fun _ => ([], []), fun _ => False, fun _ => 0⟩
def k7n2k4m (list : List GToken) : Prop := (T3 ((((((true = true ∧ leC (.bool false) (.bool (rdS list).1)) ∧ ((rdS list).2 = []) ∧ True)) ∧ (true = true ∧ leC (.bool false) (.bool (ok6B list))) ∧ True)) ∧ true = true))
def k0n2k4m (y0 : (List GScope) × GL6In) (list : List GToken) : Prop := (T5 (bif y0.2.2.2 then (T3 (k7n2k4m list)) else (T9 (bif (ltI y0.2.2.1 ((List.length list : Nat) : Int)) then (True ∧ (k7n2k4m list)) else (True ∧ ((True ∧ true = true ∧ true = true) ∧ (T2 (bif (!(filterOk ((on6 list), y0.1))) then (k7n2k4m list) else (T3 ((((((true = true ∧ leC (.bool (on6 list)) (.bool (rdS list).1)) ∧ (y0.1 = (rdS list).2) ∧ True)) ∧ (true = true ∧ leC (.bool true) (.bool (ok6B list))) ∧ True)) ∧ true = true))))))))))
def k4n2k4m (list : List GToken) : List AC := [.bool (eqS (upT (tk6T (list, (0, false)) 1)) (⟨#[83, 69, 84]⟩ : ByteArray)), .raw (.slice none 0 0)]
def k16n2k4m (list : List GToken) : List AC := [.hs .no tyToken list, .int .i64 0, .bool false]
def k1n2k4m (y1 : Nat) (y1' : Nat) (list : List GToken) (y0 : (List GScope) × GL6In) : Prop := (leV (.c (.int .i64 (IntKind.wrap .i64 (((y1 + 1 : Nat) : Int) + 1)))) (.c (.int .i64 ((y1' + 1 : Nat) : Int))) ∧ True ∧ True ∧ lxs [.c (.hs .no tyToken list), .ag (k16n2k4m list), .c (.bp 1 0), .c (.bp 1 0), .c (.str (tk6T (list, (0, false)) 1)), .c (.str (upT (tk6T (list, (0, false)) 1))), .c (.str (upT (tk6T (list, (0, false)) 1))), .c (.bool (eqS (upT (tk6T (list, (0, false)) 1)) (⟨#[83, 69, 84]⟩ : ByteArray))), .ag (k4n2k4m list), .c (.str (upT (tk6T (list, (0, false)) 1))), .c (.bool (!eqS (upT (tk6T (list, (0, false)) 1)) (⟨#[83, 69, 84]⟩ : ByteArray))), .c (.bool true), .c (.str (upT (tk6T (list, (0, false)) 1))), .c (.bool (!eqS (upT (tk6T (list, (0, false)) 1)) (⟨#[78, 79, 78, 69]⟩ : ByteArray))), .c (.bool false), .tp [], .c (.bp 1 0), .c (.bp 1 0), .c (.bp 1 1), .c (.int .i64 y0.2.2.1), .c (.hs .no tyToken list), .c (.int .i64 ((List.length list : Nat) : Int)), .c (.bool (ltI y0.2.2.1 ((List.length list : Nat) : Int))), .c (.bool true), .c (.bp 1 0), .c (.bp 1 0), .c (.bp 1 2), .c (.bool y0.2.2.2), .c (.bool (!y0.2.2.2)), .c (.bool (!y0.2.2.2)), .c (.bool true), .c (.bp 2 0), .c (.bool (on6 list)), .c (.bool true), .ag [.int .i64 0, .raw (.slice none 0 0), .int .i64 0], .c (.bp 1 0), .c (.str (tk6T y0.2 3)), .c (.bp 1 0), .c (.str (tk6T (tk6R y0.2 3) 1)), .c (.str (upT (tk6T (tk6R y0.2 3) 1)))] (TN 46 (lxs [.tp [], .tp [], .tp [], .tp [], .tp [], .tp [], .tp [], .tp [], .tp [], .tp [], .tp [], .tp [], .tp [], .tp [], .tp [], .tp [], .tp [], .tp [], .tp [], .tp []] True)))
def k2n2k4m (y1 : Nat) (y1' : Nat) (list : List GToken) (y0 : (List GScope) × GL6In) : Prop := (leV (.c (.int .i64 (IntKind.wrap .i64 (((y1 + 1 : Nat) : Int) + 1)))) (.c (.int .i64 ((y1' + 1 : Nat) : Int))) ∧ True ∧ True ∧ lxs [.c (.hs .no tyToken list), .ag (k16n2k4m list), .c (.bp 1 0), .c (.bp 1 0), .c (.str (tk6T (list, (0, false)) 1)), .c (.str (upT (tk6T (list, (0, false)) 1))), .c (.str (upT (tk6T (list, (0, false)) 1))), .c (.bool (eqS (upT (tk6T (list, (0, false)) 1)) (⟨#[83, 69, 84]⟩ : ByteArray))), .ag (k4n2k4m list), .c (.str (upT (tk6T (list, (0, false)) 1))), .c (.bool (!eqS (upT (tk6T (list, (0, false)) 1)) (⟨#[83, 69, 84]⟩ : ByteArray))), .c (.bool false), .tp [], .tp [], .c (.bool false), .tp [], .c (.bp 1 0), .c (.bp 1 0), .c (.bp 1 1), .c (.int .i64 y0.2.2.1), .c (.hs .no tyToken list), .c (.int .i64 ((List.length list : Nat) : Int)), .c (.bool (ltI y0.2.2.1 ((List.length list : Nat) : Int))), .c (.bool true), .c (.bp 1 0), .c (.bp 1 0), .c (.bp 1 2), .c (.bool y0.2.2.2), .c (.bool (!y0.2.2.2)), .c (.bool (!y0.2.2.2)), .c (.bool true), .c (.bp 2 0), .c (.bool (on6 list)), .c (.bool true), .ag [.int .i64 0, .raw (.slice none 0 0), .int .i64 0], .c (.bp 1 0), .c (.str (tk6T y0.2 3)), .c (.bp 1 0), .c (.str (tk6T (tk6R y0.2 3) 1)), .c (.str (upT (tk6T (tk6R y0.2 3) 1)))] (TN 46 (lxs [.tp [], .tp [], .tp [], .tp [], .tp [], .tp [], .tp [], .tp [], .tp [], .tp [], .tp [], .tp [], .tp [], .tp [], .tp [], .tp [], .tp [], .tp [], .tp [], .tp []] True)))
def k3n2k4m (y0 : (List GScope) × GL6In) : Prop := ((ok6 (at6R (tk6R (tk6R y0.2 3) 1)) ∧ ((((true = true ∧ leC (.hs .no tyToken (at6R (tk6R (tk6R y0.2 3) 1)).1) (.hs .no tyToken (at6R (tk6R (tk6R y0.2 3) 1)).1)) ∧ (true = true ∧ leC (.int .i64 (at6R (tk6R (tk6R y0.2 3) 1)).2.1) (.int .i64 (at6R (tk6R (tk6R y0.2 3) 1)).2.1)) ∧ (true = true ∧ leC (.bool (at6R (tk6R (tk6R y0.2 3) 1)).2.2) (.bool (at6R (tk6R (tk6R y0.2 3) 1)).2.2)) ∧ True)) ∧ True)) ∧ true = true)
def k5n2k4m (y0 : (List GScope) × GL6In) : Prop := ((ok6 (tk6R (tk6R y0.2 3) 1) ∧ ((((true = true ∧ leC (.hs .no tyToken (tk6R (tk6R y0.2 3) 1).1) (.hs .no tyToken (tk6R (tk6R y0.2 3) 1).1)) ∧ (true = true ∧ leC (.int .i64 (tk6R (tk6R y0.2 3) 1).2.1) (.int .i64 (tk6R (tk6R y0.2 3) 1).2.1)) ∧ (true = true ∧ leC (.bool (tk6R (tk6R y0.2 3) 1).2.2) (.bool (tk6R (tk6R y0.2 3) 1).2.2)) ∧ True)) ∧ True)) ∧ true = true)
def k6n2k4m (y0 : (List GScope) × GL6In) (y0' : (List GScope) × GL6In) (list : List GToken) (y1 : Nat) : Prop := (lb (.box [.bool false, .raw (.slice none 0 0)]) ∧ leB (.box [.hs .no tyToken (tk6R (at6R (at6R (tk6R (tk6R y0.2 3) 1))) 4).1, .int .i64 (tk6R (at6R (at6R (tk6R (tk6R y0.2 3) 1))) 4).2.1, .bool (!(bt6 (at6T (at6R (tk6R (tk6R y0.2 3) 1))) (-1) 0).2)]) (.box [.hs .no tyToken y0'.2.1, .int .i64 y0'.2.2.1, .bool y0'.2.2.2]) ∧ lb (.box [.bool (on6 list), .row 3 0]) ∧ leB (.row tyScope (y0.1 ++ [((kd6 (upT (tk6T (tk6R y0.2 3) 1)) y1), ((at6T (tk6R (tk6R y0.2 3) 1)), (bt6 (at6T (at6R (tk6R (tk6R y0.2 3) 1))) (-1) 0).1))]) 0 0 none) (.row tyScope y0'.1 0 0 none) ∧ True)
def k8n2k4m (y0 : (List GScope) × GL6In) (y0' : (List GScope) × GL6In) (list : List GToken) (y1 : Nat) : Prop := (lb (.box [.bool false, .raw (.slice none 0 0)]) ∧ leB (.box [.hs .no tyToken (tk6R (at6R (tk6R (tk6R y0.2 3) 1)) 4).1, .int .i64 (tk6R (at6R (tk6R (tk6R y0.2 3) 1)) 4).2.1, .bool (!(bt6 (at6T (tk6R (tk6R y0.2 3) 1)) (-1) 0).2)]) (.box [.hs .no tyToken y0'.2.1, .int .i64 y0'.2.2.1, .bool y0'.2.2.2]) ∧ lb (.box [.bool (on6 list), .row 3 0]) ∧ leB (.row tyScope (y0.1 ++ [((kd6 (upT (tk6T (tk6R y0.2 3) 1)) y1), (([] : List ByteArray), (bt6 (at6T (tk6R (tk6R y0.2 3) 1)) (-1) 0).1))]) 0 0 none) (.row tyScope y0'.1 0 0 none) ∧ True)
def k9n2k4m (y0 : (List GScope) × GL6In) (y0' : (List GScope) × GL6In) (list : List GToken) (y1 : Nat) : Prop := (lb (.box [.bool false, .raw (.slice none 0 0)]) ∧ leB (.box [.hs .no tyToken (tk6R (at6R (at6R (tk6R (tk6R y0.2 3) 1))) 4).1, .int .i64 (tk6R (at6R (at6R (tk6R (tk6R y0.2 3) 1))) 4).2.1, .bool true]) (.box [.hs .no tyToken y0'.2.1, .int .i64 y0'.2.2.1, .bool y0'.2.2.2]) ∧ lb (.box [.bool (on6 list), .row 3 0]) ∧ leB (.row tyScope (y0.1 ++ [((kd6 (upT (tk6T (tk6R y0.2 3) 1)) y1), ((at6T (tk6R (tk6R y0.2 3) 1)), (bt6 (at6T (at6R (tk6R (tk6R y0.2 3) 1))) (-1) 0).1))]) 0 0 none) (.row tyScope y0'.1 0 0 none) ∧ True)
def k10n2k4m (y0 : (List GScope) × GL6In) (y1 : Nat) : Prop := (True ∧ List.length y0.1 + List.length ([((kd6 (upT (tk6T (tk6R y0.2 3) 1)) y1), ((at6T (tk6R (tk6R y0.2 3) 1)), (bt6 (at6T (at6R (tk6R (tk6R y0.2 3) 1))) (-1) 0).1))]) ≤ rowMax)
def k11n2k4m (y0 : (List GScope) × GL6In) : List AC := [.hs .no tyToken (tk6R (tk6R y0.2 3) 1).1, .int .i64 (tk6R (tk6R y0.2 3) 1).2.1, .bool (tk6R (tk6R y0.2 3) 1).2.2]
def k12n2k4m (y0 : (List GScope) × GL6In) (y0' : (List GScope) × GL6In) (list : List GToken) (y1 : Nat) : Prop := (lb (.box [.bool false, .raw (.slice none 0 0)]) ∧ leB (.box [.hs .no tyToken (tk6R (at6R (tk6R (tk6R y0.2 3) 1)) 4).1, .int .i64 (tk6R (at6R (tk6R (tk6R y0.2 3) 1)) 4).2.1, .bool true]) (.box [.hs .no tyToken y0'.2.1, .int .i64 y0'.2.2.1, .bool y0'.2.2.2]) ∧ lb (.box [.bool (on6 list), .row 3 0]) ∧ leB (.row tyScope (y0.1 ++ [((kd6 (upT (tk6T (tk6R y0.2 3) 1)) y1), (([] : List ByteArray), (bt6 (at6T (tk6R (tk6R y0.2 3) 1)) (-1) 0).1))]) 0 0 none) (.row tyScope y0'.1 0 0 none) ∧ True)
def k13n2k4m (list : List GToken) (q : (List GScope) × GL6In) : Prop := (lb (.box [.bool false, .raw (.slice none 0 0)]) ∧ leB (.box [.hs .no tyToken (tk6R (list, (0, false)) 1).1, .int .i64 (tk6R (list, (0, false)) 1).2.1, .bool (tk6R (list, (0, false)) 1).2.2]) (.box [.hs .no tyToken q.2.1, .int .i64 q.2.2.1, .bool q.2.2.2]) ∧ leB (.box [.bool (eqS (upT (tk6T (list, (0, false)) 1)) (⟨#[83, 69, 84]⟩ : ByteArray)), .row 3 0]) (.box [.bool (on6 list), .row 3 0]) ∧ leB (.row tyScope ([] : List GScope) 0 0 none) (.row tyScope q.1 0 0 none) ∧ True)
def k14n2k4m (y0 : (List GScope) × GL6In) : Prop := ((ok6 (at6R (at6R (tk6R (tk6R y0.2 3) 1))) ∧ ((((true = true ∧ leC (.hs .no tyToken (at6R (at6R (tk6R (tk6R y0.2 3) 1))).1) (.hs .no tyToken (at6R (at6R (tk6R (tk6R y0.2 3) 1))).1)) ∧ (true = true ∧ leC (.int .i64 (at6R (at6R (tk6R (tk6R y0.2 3) 1))).2.1) (.int .i64 (at6R (at6R (tk6R (tk6R y0.2 3) 1))).2.1)) ∧ (true = true ∧ leC (.bool (at6R (at6R (tk6R (tk6R y0.2 3) 1))).2.2) (.bool (at6R (at6R (tk6R (tk6R y0.2 3) 1))).2.2)) ∧ True)) ∧ True)) ∧ true = true)
def k15n2k4m (y0 : (List GScope) × GL6In) (y1 : Nat) : Prop := (True ∧ List.length y0.1 + List.length ([((kd6 (upT (tk6T (tk6R y0.2 3) 1)) y1), (([] : List ByteArray), (bt6 (at6T (tk6R (tk6R y0.2 3) 1)) (-1) 0).1))]) ≤ rowMax)
def k17n2k4m (y0 : (List GScope) × GL6In) (list : List GToken) (y1 : Nat) (y1' : Nat) : Prop := (lb (.box [.bool false, .raw (.slice none 0 0)]) ∧ lb (.box (k11n2k4m y0)) ∧ lb (.box [.bool (on6 list), .row 3 0]) ∧ lb (.row tyScope y0.1 0 0 none) ∧ leB (.box [.int .i64 (kd6 (upT (tk6T (tk6R y0.2 3) 1)) y1), .row 5 0, .int .i64 0]) (.box [.int .i64 (kd6 (upT (tk6T (tk6R y0.2 3) 1)) y1'), .row 5 0, .int .i64 0]) ∧ lb (.row tyStr ([] : List ByteArray) 0 0 none) ∧ True)
def k18n2k4m (y0 : (List GScope) × GL6In) (list : List GToken) (y1 : Nat) (y1' : Nat) : Prop := (lb (.box [.bool false, .raw (.slice none 0 0)]) ∧ lb (.box (k11n2k4m y0)) ∧ lb (.box [.bool (on6 list), .row 3 0]) ∧ lb (.row tyScope y0.1 0 0 none) ∧ leB (.box [.int .i64 ((y1 + 1 : Nat) : Int), .row 5 0, .int .i64 0]) (.box [.int .i64 (kd6 (upT (tk6T (tk6R y0.2 3) 1)) y1'), .row 5 0, .int .i64 0]) ∧ lb (.row tyStr ([] : List ByteArray) 0 0 none) ∧ True)
def k19n2k4m (y0 : (List GScope) × GL6In) (list : List GToken) (q : Nat) : Prop := (lb (.box [.bool false, .raw (.slice none 0 0)]) ∧ lb (.box (k11n2k4m y0)) ∧ lb (.box [.bool (on6 list), .row 3 0]) ∧ lb (.row tyScope y0.1 0 0 none) ∧ leB (.box [.int .i64 0, .row 5 0, .int .i64 0]) (.box [.int .i64 (kd6 (upT (tk6T (tk6R y0.2 3) 1)) q), .row 5 0, .int .i64 0]) ∧ lb (.row tyStr ([] : List ByteArray) 0 0 none) ∧ True)
def k20n2k4m (y0 : (List GScope) × GL6In) : Prop := ((ok6 (tk6R y0.2 3) ∧ ((((true = true ∧ leC (.hs .no tyToken (tk6R y0.2 3).1) (.hs .no tyToken (tk6R y0.2 3).1)) ∧ (true = true ∧ leC (.int .i64 (tk6R y0.2 3).2.1) (.int .i64 (tk6R y0.2 3).2.1)) ∧ (true = true ∧ leC (.bool (tk6R y0.2 3).2.2) (.bool (tk6R y0.2 3).2.2)) ∧ True)) ∧ True)) ∧ true = true)
def k21n2k4m (y0 : (List GScope) × GL6In) : Prop := ((ok6 y0.2 ∧ ((((true = true ∧ leC (.hs .no tyToken y0.2.1) (.hs .no tyToken y0.2.1)) ∧ (true = true ∧ leC (.int .i64 y0.2.2.1) (.int .i64 y0.2.2.1)) ∧ (true = true ∧ leC (.bool y0.2.2.2) (.bool y0.2.2.2)) ∧ True)) ∧ True)) ∧ true = true)
theorem b_s_ReadFilter (list : List GToken) (hpre : List.length list ≤ 1048576) : BCalls Try.prog 14 [.c (.hs .no tyToken list)] (.tp [.ag [.bool (rdS list).1, .row 0 0], .c (.bool (ok6B list))]) [.row tyScope (rdS list).2 0 0 none] := by
  refine bcalls_of (T := ⟨[e_s_Upper, e_s_l6Words, e_s_l6Bits, e_s_FilterOk], [], [], [e_s_l6Take, e_s_l6Atoms], none, fun i => match i with | 6 => [⟨some 2, 1, tyScope⟩] | 11 => [⟨some 4, 1, tyStr⟩] | _ => [], 0, [], []⟩) (L := (L_s_ReadFilter list)) Try.func14 ⟨⟨rfl, rfl⟩, rfl⟩ (fun hwf => ?_)
  refine Eq.mpr (β := (T7 (((ok6 (list, (0, false)) ∧ ((((true = true ∧ leC (.hs .no tyToken list) (.hs .no tyToken list)) ∧ (true = true ∧ leC (.int .i64 0) (.int .i64 0)) ∧ (true = true ∧ leC (.bool false) (.bool false)) ∧ True)) ∧ True)) ∧ true = true) ∧ ((True ∧ true = true) ∧ (T9 (bif (!eqS (upT (tk6T (list, (0, false)) 1)) (⟨#[83, 69, 84]⟩ : ByteArray)) then (T3 (bif (!eqS (upT (tk6T (list, (0, false)) 1)) (⟨#[78, 79, 78, 69]⟩ : ByteArray)) then (k7n2k4m list) else ((∃ q : (List GScope) × GL6In, (rsI list q.1 q.2) ∧ ((lxs [.c (.hs .no tyToken list), .tp [], .c (.bp 0 0), .c (.bool false), .c (.bp 1 0), .c (.str (upT (tk6T (list, (0, false)) 1))), .c (.bp 2 0)] (TN 5 (lxs [.c (.hs .no tyToken list), .ag (k16n2k4m list), .c (.bp 1 0), .c (.bp 1 0), .c (.str (tk6T (list, (0, false)) 1)), .c (.str (upT (tk6T (list, (0, false)) 1))), .c (.str (upT (tk6T (list, (0, false)) 1))), .c (.bool (eqS (upT (tk6T (list, (0, false)) 1)) (⟨#[83, 69, 84]⟩ : ByteArray))), .ag (k4n2k4m list), .c (.str (upT (tk6T (list, (0, false)) 1))), .c (.bool (!eqS (upT (tk6T (list, (0, false)) 1)) (⟨#[83, 69, 84]⟩ : ByteArray))), .c (.bool true), .c (.str (upT (tk6T (list, (0, false)) 1))), .c (.bool (!eqS (upT (tk6T (list, (0, false)) 1)) (⟨#[78, 79, 78, 69]⟩ : ByteArray))), .c (.bool false), .tp []] (TN 70 (lxs [.tp [], .tp [], .tp [], .tp [], .tp [], .tp [], .tp [], .tp [], .tp [], .tp [], .tp [], .tp [], .tp [], .tp [], .tp [], .tp [], .tp [], .tp [], .tp [], .tp []] True))))) ∧ (k13n2k4m list q) ∧ true = true)) ∧ ∀ y0 : (List GScope) × GL6In, (rsI list y0.1 y0.2) → (T8 (bif (ltI y0.2.2.1 ((List.length list : Nat) : Int)) then (T7 (bif (!y0.2.2.2) then (T3 (bif (on6 list) then (T4 ((k21n2k4m y0) ∧ (True ∧ ((k20n2k4m y0) ∧ ((True ∧ true = true) ∧ (T2 ((∃ q : Nat, (q ≤ 4) ∧ ((lxs [.c (.hs .no tyToken list), .tp [], .c (.bp 0 0), .c (.bool false), .c (.bp 1 0), .c (.str (upT (tk6T (list, (0, false)) 1))), .c (.bp 2 0), .c (.bp 4 0), .c (.str (upT (tk6T (tk6R y0.2 3) 1)))] (leV (.c (.int .i64 1)) (.c (.int .i64 ((q + 1 : Nat) : Int))) ∧ True ∧ True ∧ lxs [.c (.hs .no tyToken list), .ag (k16n2k4m list), .c (.bp 1 0), .c (.bp 1 0), .c (.str (tk6T (list, (0, false)) 1)), .c (.str (upT (tk6T (list, (0, false)) 1))), .c (.str (upT (tk6T (list, (0, false)) 1))), .c (.bool (eqS (upT (tk6T (list, (0, false)) 1)) (⟨#[83, 69, 84]⟩ : ByteArray))), .ag (k4n2k4m list), .c (.str (upT (tk6T (list, (0, false)) 1))), .c (.bool (!eqS (upT (tk6T (list, (0, false)) 1)) (⟨#[83, 69, 84]⟩ : ByteArray))), .c (.bool true), .c (.str (upT (tk6T (list, (0, false)) 1))), .c (.bool (!eqS (upT (tk6T (list, (0, false)) 1)) (⟨#[78, 79, 78, 69]⟩ : ByteArray))), .c (.bool false), .tp [], .c (.bp 1 0), .c (.bp 1 0), .c (.bp 1 1), .c (.int .i64 y0.2.2.1), .c (.hs .no tyToken list), .c (.int .i64 ((List.length list : Nat) : Int)), .c (.bool (ltI y0.2.2.1 ((List.length list : Nat) : Int))), .c (.bool true), .c (.bp 1 0), .c (.bp 1 0), .c (.bp 1 2), .c (.bool y0.2.2.2), .c (.bool (!y0.2.2.2)), .c (.bool (!y0.2.2.2)), .c (.bool true), .c (.bp 2 0), .c (.bool (on6 list)), .c (.bool true), .ag [.int .i64 0, .raw (.slice none 0 0), .int .i64 0], .c (.bp 1 0), .c (.str (tk6T y0.2 3)), .c (.bp 1 0), .c (.str (tk6T (tk6R y0.2 3) 1)), .c (.str (upT (tk6T (tk6R y0.2 3) 1)))] (TN 46 (lxs [.tp [], .tp [], .tp [], .tp [], .tp [], .tp [], .tp [], .tp [], .tp [], .tp [], .tp [], .tp [], .tp [], .tp [], .tp [], .tp [], .tp [], .tp [], .tp [], .tp []] True)))) ∧ (k19n2k4m y0 list q) ∧ true = true)) ∧ ∀ y1 : Nat, (y1 ≤ 4) → (T2 (bif (leI ((y1 + 1 : Nat) : Int) 4) then ((True ∧ true = true) ∧ (True ∧ (((1 : Nat) = 1 ∧ (0 : Int) ≤ ((y1 + 1 : Nat) : Int) ∧ (((y1 + 1 : Nat) : Int) : Int) < ((List.length scW : Nat) : Int)) ∧ (True ∧ ((True ∧ true = true) ∧ (T2 (bif (eqS (upT (nth_String scW (Int.toNat ((y1 + 1 : Nat) : Int)))) (upT (tk6T (tk6R y0.2 3) 1))) then (T6 (∃ y1' : Nat, (y1' ≤ 4) ∧ (4 - y1') < (4 - y1) ∧ ((lxs [.c (.hs .no tyToken list), .tp [], .c (.bp 0 0), .c (.bool false), .c (.bp 1 0), .c (.str (upT (tk6T (list, (0, false)) 1))), .c (.bp 2 0), .c (.bp 4 0), .c (.str (upT (tk6T (tk6R y0.2 3) 1)))] (k1n2k4m y1 y1' list y0)) ∧ (k18n2k4m y0 list y1 y1') ∧ true = true))) else (T3 (∃ y1' : Nat, (y1' ≤ 4) ∧ (4 - y1') < (4 - y1) ∧ ((lxs [.c (.hs .no tyToken list), .tp [], .c (.bp 0 0), .c (.bool false), .c (.bp 1 0), .c (.str (upT (tk6T (list, (0, false)) 1))), .c (.bp 2 0), .c (.bp 4 0), .c (.str (upT (tk6T (tk6R y0.2 3) 1)))] (k1n2k4m y1 y1' list y0)) ∧ (k17n2k4m y0 list y1 y1') ∧ true = true)))))))))) else (T3 (bif (geI (kd6 (upT (tk6T (tk6R y0.2 3) 1)) y1) 3) then (True ∧ ((k5n2k4m y0) ∧ (T3 ((k3n2k4m y0) ∧ ((True ∧ true = true ∧ true = true) ∧ (T9 ((k14n2k4m y0) ∧ (T6 (bif (tk6R (at6R (at6R (tk6R (tk6R y0.2 3) 1))) 4).2.2 then (T8 ((k10n2k4m y0 y1) ∧ (T2 (∃ y0' : (List GScope) × GL6In, (rsI list y0'.1 y0'.2) ∧ (ms6 y0'.2) < (ms6 y0.2) ∧ ((lxs [.c (.hs .no tyToken list), .tp [], .c (.bp 0 0), .c (.bool false), .c (.bp 1 0), .c (.str (upT (tk6T (list, (0, false)) 1))), .c (.bp 2 0)] (TN 5 (lxs [.c (.hs .no tyToken list), .ag (k16n2k4m list), .c (.bp 1 0), .c (.bp 1 0), .c (.str (tk6T (list, (0, false)) 1)), .c (.str (upT (tk6T (list, (0, false)) 1))), .c (.str (upT (tk6T (list, (0, false)) 1))), .c (.bool (eqS (upT (tk6T (list, (0, false)) 1)) (⟨#[83, 69, 84]⟩ : ByteArray))), .ag (k4n2k4m list), .c (.str (upT (tk6T (list, (0, false)) 1))), .c (.bool (!eqS (upT (tk6T (list, (0, false)) 1)) (⟨#[83, 69, 84]⟩ : ByteArray))), .c (.bool true), .c (.str (upT (tk6T (list, (0, false)) 1))), .c (.bool (!eqS (upT (tk6T (list, (0, false)) 1)) (⟨#[78, 79, 78, 69]⟩ : ByteArray))), .c (.bool false), .tp []] (TN 70 (lxs [.tp [], .tp [], .tp [], .tp [], .tp [], .tp [], .tp [], .tp [], .tp [], .tp [], .tp [], .tp [], .tp [], .tp [], .tp [], .tp [], .tp [], .tp [], .tp [], .tp []] True))))) ∧ (k9n2k4m y0 y0' list y1) ∧ true = true))))) else (T10 ((k10n2k4m y0 y1) ∧ (T2 (∃ y0' : (List GScope) × GL6In, (rsI list y0'.1 y0'.2) ∧ (ms6 y0'.2) < (ms6 y0.2) ∧ ((lxs [.c (.hs .no tyToken list), .tp [], .c (.bp 0 0), .c (.bool false), .c (.bp 1 0), .c (.str (upT (tk6T (list, (0, false)) 1))), .c (.bp 2 0)] (TN 5 (lxs [.c (.hs .no tyToken list), .ag (k16n2k4m list), .c (.bp 1 0), .c (.bp 1 0), .c (.str (tk6T (list, (0, false)) 1)), .c (.str (upT (tk6T (list, (0, false)) 1))), .c (.str (upT (tk6T (list, (0, false)) 1))), .c (.bool (eqS (upT (tk6T (list, (0, false)) 1)) (⟨#[83, 69, 84]⟩ : ByteArray))), .ag (k4n2k4m list), .c (.str (upT (tk6T (list, (0, false)) 1))), .c (.bool (!eqS (upT (tk6T (list, (0, false)) 1)) (⟨#[83, 69, 84]⟩ : ByteArray))), .c (.bool true), .c (.str (upT (tk6T (list, (0, false)) 1))), .c (.bool (!eqS (upT (tk6T (list, (0, false)) 1)) (⟨#[78, 79, 78, 69]⟩ : ByteArray))), .c (.bool false), .tp []] (TN 70 (lxs [.tp [], .tp [], .tp [], .tp [], .tp [], .tp [], .tp [], .tp [], .tp [], .tp [], .tp [], .tp [], .tp [], .tp [], .tp [], .tp [], .tp [], .tp [], .tp [], .tp []] True))))) ∧ (k6n2k4m y0 y0' list y1) ∧ true = true)))))))))))))) else (True ∧ ((k5n2k4m y0) ∧ ((True ∧ true = true ∧ true = true) ∧ (T9 ((k3n2k4m y0) ∧ (T6 (bif (tk6R (at6R (tk6R (tk6R y0.2 3) 1)) 4).2.2 then (T8 ((k15n2k4m y0 y1) ∧ (T2 (∃ y0' : (List GScope) × GL6In, (rsI list y0'.1 y0'.2) ∧ (ms6 y0'.2) < (ms6 y0.2) ∧ ((lxs [.c (.hs .no tyToken list), .tp [], .c (.bp 0 0), .c (.bool false), .c (.bp 1 0), .c (.str (upT (tk6T (list, (0, false)) 1))), .c (.bp 2 0)] (TN 5 (lxs [.c (.hs .no tyToken list), .ag (k16n2k4m list), .c (.bp 1 0), .c (.bp 1 0), .c (.str (tk6T (list, (0, false)) 1)), .c (.str (upT (tk6T (list, (0, false)) 1))), .c (.str (upT (tk6T (list, (0, false)) 1))), .c (.bool (eqS (upT (tk6T (list, (0, false)) 1)) (⟨#[83, 69, 84]⟩ : ByteArray))), .ag (k4n2k4m list), .c (.str (upT (tk6T (list, (0, false)) 1))), .c (.bool (!eqS (upT (tk6T (list, (0, false)) 1)) (⟨#[83, 69, 84]⟩ : ByteArray))), .c (.bool true), .c (.str (upT (tk6T (list, (0, false)) 1))), .c (.bool (!eqS (upT (tk6T (list, (0, false)) 1)) (⟨#[78, 79, 78, 69]⟩ : ByteArray))), .c (.bool false), .tp []] (TN 70 (lxs [.tp [], .tp [], .tp [], .tp [], .tp [], .tp [], .tp [], .tp [], .tp [], .tp [], .tp [], .tp [], .tp [], .tp [], .tp [], .tp [], .tp [], .tp [], .tp [], .tp []] True))))) ∧ (k12n2k4m y0 y0' list y1) ∧ true = true))))) else (T10 ((k15n2k4m y0 y1) ∧ (T2 (∃ y0' : (List GScope) × GL6In, (rsI list y0'.1 y0'.2) ∧ (ms6 y0'.2) < (ms6 y0.2) ∧ ((lxs [.c (.hs .no tyToken list), .tp [], .c (.bp 0 0), .c (.bool false), .c (.bp 1 0), .c (.str (upT (tk6T (list, (0, false)) 1))), .c (.bp 2 0)] (TN 5 (lxs [.c (.hs .no tyToken list), .ag (k16n2k4m list), .c (.bp 1 0), .c (.bp 1 0), .c (.str (tk6T (list, (0, false)) 1)), .c (.str (upT (tk6T (list, (0, false)) 1))), .c (.str (upT (tk6T (list, (0, false)) 1))), .c (.bool (eqS (upT (tk6T (list, (0, false)) 1)) (⟨#[83, 69, 84]⟩ : ByteArray))), .ag (k4n2k4m list), .c (.str (upT (tk6T (list, (0, false)) 1))), .c (.bool (!eqS (upT (tk6T (list, (0, false)) 1)) (⟨#[83, 69, 84]⟩ : ByteArray))), .c (.bool true), .c (.str (upT (tk6T (list, (0, false)) 1))), .c (.bool (!eqS (upT (tk6T (list, (0, false)) 1)) (⟨#[78, 79, 78, 69]⟩ : ByteArray))), .c (.bool false), .tp []] (TN 70 (lxs [.tp [], .tp [], .tp [], .tp [], .tp [], .tp [], .tp [], .tp [], .tp [], .tp [], .tp [], .tp [], .tp [], .tp [], .tp [], .tp [], .tp [], .tp [], .tp [], .tp []] True))))) ∧ (k8n2k4m y0 y0' list y1) ∧ true = true))))))))))))))))))))))) else (k0n2k4m y0 list))) else (True ∧ (k0n2k4m y0 list)))) else (T3 (k0n2k4m y0 list))))))) else (True ∧ ((∃ q : (List GScope) × GL6In, (rsI list q.1 q.2) ∧ ((lxs [.c (.hs .no tyToken list), .tp [], .c (.bp 0 0), .c (.bool false), .c (.bp 1 0), .c (.str (upT (tk6T (list, (0, false)) 1))), .c (.bp 2 0)] (TN 5 (lxs [.c (.hs .no tyToken list), .ag (k16n2k4m list), .c (.bp 1 0), .c (.bp 1 0), .c (.str (tk6T (list, (0, false)) 1)), .c (.str (upT (tk6T (list, (0, false)) 1))), .c (.str (upT (tk6T (list, (0, false)) 1))), .c (.bool (eqS (upT (tk6T (list, (0, false)) 1)) (⟨#[83, 69, 84]⟩ : ByteArray))), .ag (k4n2k4m list), .c (.str (upT (tk6T (list, (0, false)) 1))), .c (.bool (!eqS (upT (tk6T (list, (0, false)) 1)) (⟨#[83, 69, 84]⟩ : ByteArray))), .c (.bool false), .tp [], .tp [], .c (.bool false), .tp []] (TN 70 (lxs [.tp [], .tp [], .tp [], .tp [], .tp [], .tp [], .tp [], .tp [], .tp [], .tp [], .tp [], .tp [], .tp [], .tp [], .tp [], .tp [], .tp [], .tp [], .tp [], .tp []] True))))) ∧ (k13n2k4m list q) ∧ true = true)) ∧ ∀ y0 : (List GScope) × GL6In, (rsI list y0.1 y0.2) → (T8 (bif (ltI y0.2.2.1 ((List.length list : Nat) : Int)) then (T7 (bif (!y0.2.2.2) then (T3 (bif (on6 list) then (T4 ((k21n2k4m y0) ∧ (True ∧ ((k20n2k4m y0) ∧ ((True ∧ true = true) ∧ (T2 ((∃ q : Nat, (q ≤ 4) ∧ ((lxs [.c (.hs .no tyToken list), .tp [], .c (.bp 0 0), .c (.bool false), .c (.bp 1 0), .c (.str (upT (tk6T (list, (0, false)) 1))), .c (.bp 2 0), .c (.bp 4 0), .c (.str (upT (tk6T (tk6R y0.2 3) 1)))] (leV (.c (.int .i64 1)) (.c (.int .i64 ((q + 1 : Nat) : Int))) ∧ True ∧ True ∧ lxs [.c (.hs .no tyToken list), .ag (k16n2k4m list), .c (.bp 1 0), .c (.bp 1 0), .c (.str (tk6T (list, (0, false)) 1)), .c (.str (upT (tk6T (list, (0, false)) 1))), .c (.str (upT (tk6T (list, (0, false)) 1))), .c (.bool (eqS (upT (tk6T (list, (0, false)) 1)) (⟨#[83, 69, 84]⟩ : ByteArray))), .ag (k4n2k4m list), .c (.str (upT (tk6T (list, (0, false)) 1))), .c (.bool (!eqS (upT (tk6T (list, (0, false)) 1)) (⟨#[83, 69, 84]⟩ : ByteArray))), .c (.bool false), .tp [], .tp [], .c (.bool false), .tp [], .c (.bp 1 0), .c (.bp 1 0), .c (.bp 1 1), .c (.int .i64 y0.2.2.1), .c (.hs .no tyToken list), .c (.int .i64 ((List.length list : Nat) : Int)), .c (.bool (ltI y0.2.2.1 ((List.length list : Nat) : Int))), .c (.bool true), .c (.bp 1 0), .c (.bp 1 0), .c (.bp 1 2), .c (.bool y0.2.2.2), .c (.bool (!y0.2.2.2)), .c (.bool (!y0.2.2.2)), .c (.bool true), .c (.bp 2 0), .c (.bool (on6 list)), .c (.bool true), .ag [.int .i64 0, .raw (.slice none 0 0), .int .i64 0], .c (.bp 1 0), .c (.str (tk6T y0.2 3)), .c (.bp 1 0), .c (.str (tk6T (tk6R y0.2 3) 1)), .c (.str (upT (tk6T (tk6R y0.2 3) 1)))] (TN 46 (lxs [.tp [], .tp [], .tp [], .tp [], .tp [], .tp [], .tp [], .tp [], .tp [], .tp [], .tp [], .tp [], .tp [], .tp [], .tp [], .tp [], .tp [], .tp [], .tp [], .tp []] True)))) ∧ (k19n2k4m y0 list q) ∧ true = true)) ∧ ∀ y1 : Nat, (y1 ≤ 4) → (T2 (bif (leI ((y1 + 1 : Nat) : Int) 4) then ((True ∧ true = true) ∧ (True ∧ (((1 : Nat) = 1 ∧ (0 : Int) ≤ ((y1 + 1 : Nat) : Int) ∧ (((y1 + 1 : Nat) : Int) : Int) < ((List.length scW : Nat) : Int)) ∧ (True ∧ ((True ∧ true = true) ∧ (T2 (bif (eqS (upT (nth_String scW (Int.toNat ((y1 + 1 : Nat) : Int)))) (upT (tk6T (tk6R y0.2 3) 1))) then (T6 (∃ y1' : Nat, (y1' ≤ 4) ∧ (4 - y1') < (4 - y1) ∧ ((lxs [.c (.hs .no tyToken list), .tp [], .c (.bp 0 0), .c (.bool false), .c (.bp 1 0), .c (.str (upT (tk6T (list, (0, false)) 1))), .c (.bp 2 0), .c (.bp 4 0), .c (.str (upT (tk6T (tk6R y0.2 3) 1)))] (k2n2k4m y1 y1' list y0)) ∧ (k18n2k4m y0 list y1 y1') ∧ true = true))) else (T3 (∃ y1' : Nat, (y1' ≤ 4) ∧ (4 - y1') < (4 - y1) ∧ ((lxs [.c (.hs .no tyToken list), .tp [], .c (.bp 0 0), .c (.bool false), .c (.bp 1 0), .c (.str (upT (tk6T (list, (0, false)) 1))), .c (.bp 2 0), .c (.bp 4 0), .c (.str (upT (tk6T (tk6R y0.2 3) 1)))] (k2n2k4m y1 y1' list y0)) ∧ (k17n2k4m y0 list y1 y1') ∧ true = true)))))))))) else (T3 (bif (geI (kd6 (upT (tk6T (tk6R y0.2 3) 1)) y1) 3) then (True ∧ ((k5n2k4m y0) ∧ (T3 ((k3n2k4m y0) ∧ ((True ∧ true = true ∧ true = true) ∧ (T9 ((k14n2k4m y0) ∧ (T6 (bif (tk6R (at6R (at6R (tk6R (tk6R y0.2 3) 1))) 4).2.2 then (T8 ((k10n2k4m y0 y1) ∧ (T2 (∃ y0' : (List GScope) × GL6In, (rsI list y0'.1 y0'.2) ∧ (ms6 y0'.2) < (ms6 y0.2) ∧ ((lxs [.c (.hs .no tyToken list), .tp [], .c (.bp 0 0), .c (.bool false), .c (.bp 1 0), .c (.str (upT (tk6T (list, (0, false)) 1))), .c (.bp 2 0)] (TN 5 (lxs [.c (.hs .no tyToken list), .ag (k16n2k4m list), .c (.bp 1 0), .c (.bp 1 0), .c (.str (tk6T (list, (0, false)) 1)), .c (.str (upT (tk6T (list, (0, false)) 1))), .c (.str (upT (tk6T (list, (0, false)) 1))), .c (.bool (eqS (upT (tk6T (list, (0, false)) 1)) (⟨#[83, 69, 84]⟩ : ByteArray))), .ag (k4n2k4m list), .c (.str (upT (tk6T (list, (0, false)) 1))), .c (.bool (!eqS (upT (tk6T (list, (0, false)) 1)) (⟨#[83, 69, 84]⟩ : ByteArray))), .c (.bool false), .tp [], .tp [], .c (.bool false), .tp []] (TN 70 (lxs [.tp [], .tp [], .tp [], .tp [], .tp [], .tp [], .tp [], .tp [], .tp [], .tp [], .tp [], .tp [], .tp [], .tp [], .tp [], .tp [], .tp [], .tp [], .tp [], .tp []] True))))) ∧ (k9n2k4m y0 y0' list y1) ∧ true = true))))) else (T10 ((k10n2k4m y0 y1) ∧ (T2 (∃ y0' : (List GScope) × GL6In, (rsI list y0'.1 y0'.2) ∧ (ms6 y0'.2) < (ms6 y0.2) ∧ ((lxs [.c (.hs .no tyToken list), .tp [], .c (.bp 0 0), .c (.bool false), .c (.bp 1 0), .c (.str (upT (tk6T (list, (0, false)) 1))), .c (.bp 2 0)] (TN 5 (lxs [.c (.hs .no tyToken list), .ag (k16n2k4m list), .c (.bp 1 0), .c (.bp 1 0), .c (.str (tk6T (list, (0, false)) 1)), .c (.str (upT (tk6T (list, (0, false)) 1))), .c (.str (upT (tk6T (list, (0, false)) 1))), .c (.bool (eqS (upT (tk6T (list, (0, false)) 1)) (⟨#[83, 69, 84]⟩ : ByteArray))), .ag (k4n2k4m list), .c (.str (upT (tk6T (list, (0, false)) 1))), .c (.bool (!eqS (upT (tk6T (list, (0, false)) 1)) (⟨#[83, 69, 84]⟩ : ByteArray))), .c (.bool false), .tp [], .tp [], .c (.bool false), .tp []] (TN 70 (lxs [.tp [], .tp [], .tp [], .tp [], .tp [], .tp [], .tp [], .tp [], .tp [], .tp [], .tp [], .tp [], .tp [], .tp [], .tp [], .tp [], .tp [], .tp [], .tp [], .tp []] True))))) ∧ (k6n2k4m y0 y0' list y1) ∧ true = true)))))))))))))) else (True ∧ ((k5n2k4m y0) ∧ ((True ∧ true = true ∧ true = true) ∧ (T9 ((k3n2k4m y0) ∧ (T6 (bif (tk6R (at6R (tk6R (tk6R y0.2 3) 1)) 4).2.2 then (T8 ((k15n2k4m y0 y1) ∧ (T2 (∃ y0' : (List GScope) × GL6In, (rsI list y0'.1 y0'.2) ∧ (ms6 y0'.2) < (ms6 y0.2) ∧ ((lxs [.c (.hs .no tyToken list), .tp [], .c (.bp 0 0), .c (.bool false), .c (.bp 1 0), .c (.str (upT (tk6T (list, (0, false)) 1))), .c (.bp 2 0)] (TN 5 (lxs [.c (.hs .no tyToken list), .ag (k16n2k4m list), .c (.bp 1 0), .c (.bp 1 0), .c (.str (tk6T (list, (0, false)) 1)), .c (.str (upT (tk6T (list, (0, false)) 1))), .c (.str (upT (tk6T (list, (0, false)) 1))), .c (.bool (eqS (upT (tk6T (list, (0, false)) 1)) (⟨#[83, 69, 84]⟩ : ByteArray))), .ag (k4n2k4m list), .c (.str (upT (tk6T (list, (0, false)) 1))), .c (.bool (!eqS (upT (tk6T (list, (0, false)) 1)) (⟨#[83, 69, 84]⟩ : ByteArray))), .c (.bool false), .tp [], .tp [], .c (.bool false), .tp []] (TN 70 (lxs [.tp [], .tp [], .tp [], .tp [], .tp [], .tp [], .tp [], .tp [], .tp [], .tp [], .tp [], .tp [], .tp [], .tp [], .tp [], .tp [], .tp [], .tp [], .tp [], .tp []] True))))) ∧ (k12n2k4m y0 y0' list y1) ∧ true = true))))) else (T10 ((k15n2k4m y0 y1) ∧ (T2 (∃ y0' : (List GScope) × GL6In, (rsI list y0'.1 y0'.2) ∧ (ms6 y0'.2) < (ms6 y0.2) ∧ ((lxs [.c (.hs .no tyToken list), .tp [], .c (.bp 0 0), .c (.bool false), .c (.bp 1 0), .c (.str (upT (tk6T (list, (0, false)) 1))), .c (.bp 2 0)] (TN 5 (lxs [.c (.hs .no tyToken list), .ag (k16n2k4m list), .c (.bp 1 0), .c (.bp 1 0), .c (.str (tk6T (list, (0, false)) 1)), .c (.str (upT (tk6T (list, (0, false)) 1))), .c (.str (upT (tk6T (list, (0, false)) 1))), .c (.bool (eqS (upT (tk6T (list, (0, false)) 1)) (⟨#[83, 69, 84]⟩ : ByteArray))), .ag (k4n2k4m list), .c (.str (upT (tk6T (list, (0, false)) 1))), .c (.bool (!eqS (upT (tk6T (list, (0, false)) 1)) (⟨#[83, 69, 84]⟩ : ByteArray))), .c (.bool false), .tp [], .tp [], .c (.bool false), .tp []] (TN 70 (lxs [.tp [], .tp [], .tp [], .tp [], .tp [], .tp [], .tp [], .tp [], .tp [], .tp [], .tp [], .tp [], .tp [], .tp [], .tp [], .tp [], .tp [], .tp [], .tp [], .tp []] True))))) ∧ (k8n2k4m y0 y0' list y1) ∧ true = true))))))))))))))))))))))) else (k0n2k4m y0 list))) else (True ∧ (k0n2k4m y0 list)))) else (T3 (k0n2k4m y0 list)))))))))))) (by kernel_rfl) ?_
  unfold k21n2k4m k20n2k4m k19n2k4m k18n2k4m k17n2k4m k15n2k4m k14n2k4m k13n2k4m k12n2k4m k11n2k4m k10n2k4m k9n2k4m k8n2k4m k6n2k4m k5n2k4m k3n2k4m k2n2k4m k1n2k4m k16n2k4m k4n2k4m k0n2k4m k7n2k4m T10 T2 T3 T4 T5 T6 T7 T8 T9
  have hp : List.length list ≤ 1048576 := hpre
  simp only [leB_l6, leC_tok, leB_br6, leB_sc, SI2A, eq_self]
  repeat' (with_reducible first | exact trivial | apply And.intro | intro _)
  all_goals first
    | (with_reducible trivial)
    | omega
    | (with_reducible assumption)
    | exact ok60 hp
    | exact q_0 hp
    | exact q_ok (by with_reducible assumption)
    | exact tk6_ok 3 (q_ok (by with_reducible assumption))
    | exact tk6_ok 1 (tk6_ok 3 (q_ok (by with_reducible assumption)))
    | exact at6_ok (tk6_ok 1 (tk6_ok 3 (q_ok (by with_reducible assumption))))
    | exact at6_ok (at6_ok (tk6_ok 1 (tk6_ok 3 (q_ok (by with_reducible assumption)))))
    | exact q_k0
    | exact q_sc (by with_reducible assumption)
    | exact q_y (by with_reducible assumption) (by with_reducible assumption)
    | exact q_n (by with_reducible assumption) (by with_reducible assumption)
    | exact q_m hp (by with_reducible assumption)
    | exact q_s1 (by with_reducible assumption) (by with_reducible assumption) (by with_reducible assumption) (by with_reducible assumption) (by with_reducible assumption) (by with_reducible assumption) (by with_reducible assumption) (by with_reducible assumption)
    | exact q_s2 (by with_reducible assumption) (by with_reducible assumption) (by with_reducible assumption) (by with_reducible assumption) (by with_reducible assumption) (by with_reducible assumption) (by with_reducible assumption) (by with_reducible assumption)
    | exact (q_no (by with_reducible assumption) (by with_reducible assumption)).symm
    | exact (congrArg Prod.fst (q_rd (q_no (by with_reducible assumption) (by with_reducible assumption)))).symm
    | exact congrArg Prod.snd (q_rd (q_no (by with_reducible assumption) (by with_reducible assumption)))
    | exact (q_f1 (q_e1 (by with_reducible assumption) (by with_reducible assumption)) (by with_reducible assumption)).symm
    | exact (congrArg Prod.fst (q_rd (q_f1 (q_e1 (by with_reducible assumption) (by with_reducible assumption)) (by with_reducible assumption)))).symm
    | exact congrArg Prod.snd (q_rd (q_f1 (q_e1 (by with_reducible assumption) (by with_reducible assumption)) (by with_reducible assumption)))
    | exact (q_f2 (q_e1 (by with_reducible assumption) (by with_reducible assumption)) (by with_reducible assumption)).symm
    | exact (congrArg Prod.fst (q_rd (q_f2 (q_e1 (by with_reducible assumption) (by with_reducible assumption)) (by with_reducible assumption)))).symm
    | exact congrArg Prod.snd (q_rd (q_f2 (q_e1 (by with_reducible assumption) (by with_reducible assumption)) (by with_reducible assumption)))
    | exact (q_f3 (q_e1 (by with_reducible assumption) (by with_reducible assumption)) (by with_reducible assumption)).symm
    | exact (congrArg Prod.fst (q_rd (q_f3 (q_e1 (by with_reducible assumption) (by with_reducible assumption)) (by with_reducible assumption)))).symm
    | exact congrArg Prod.snd (q_rd (q_f3 (q_e1 (by with_reducible assumption) (by with_reducible assumption)) (by with_reducible assumption)))
    | exact (q_f1 (q_e3 (by with_reducible assumption) (by with_reducible assumption)) (by with_reducible assumption)).symm
    | exact (congrArg Prod.fst (q_rd (q_f1 (q_e3 (by with_reducible assumption) (by with_reducible assumption)) (by with_reducible assumption)))).symm
    | exact congrArg Prod.snd (q_rd (q_f1 (q_e3 (by with_reducible assumption) (by with_reducible assumption)) (by with_reducible assumption)))
    | exact (q_f2 (q_e3 (by with_reducible assumption) (by with_reducible assumption)) (by with_reducible assumption)).symm
    | exact (congrArg Prod.fst (q_rd (q_f2 (q_e3 (by with_reducible assumption) (by with_reducible assumption)) (by with_reducible assumption)))).symm
    | exact congrArg Prod.snd (q_rd (q_f2 (q_e3 (by with_reducible assumption) (by with_reducible assumption)) (by with_reducible assumption)))
    | exact (q_f3 (q_e3 (by with_reducible assumption) (by with_reducible assumption)) (by with_reducible assumption)).symm
    | exact (congrArg Prod.fst (q_rd (q_f3 (q_e3 (by with_reducible assumption) (by with_reducible assumption)) (by with_reducible assumption)))).symm
    | exact congrArg Prod.snd (q_rd (q_f3 (q_e3 (by with_reducible assumption) (by with_reducible assumption)) (by with_reducible assumption)))
    | exact (q_f1 (q_e2 (by with_reducible assumption) (by with_reducible assumption)) (by with_reducible assumption)).symm
    | exact (congrArg Prod.fst (q_rd (q_f1 (q_e2 (by with_reducible assumption) (by with_reducible assumption)) (by with_reducible assumption)))).symm
    | exact congrArg Prod.snd (q_rd (q_f1 (q_e2 (by with_reducible assumption) (by with_reducible assumption)) (by with_reducible assumption)))
    | exact (q_f2 (q_e2 (by with_reducible assumption) (by with_reducible assumption)) (by with_reducible assumption)).symm
    | exact (congrArg Prod.fst (q_rd (q_f2 (q_e2 (by with_reducible assumption) (by with_reducible assumption)) (by with_reducible assumption)))).symm
    | exact congrArg Prod.snd (q_rd (q_f2 (q_e2 (by with_reducible assumption) (by with_reducible assumption)) (by with_reducible assumption)))
    | exact (q_f3 (q_e2 (by with_reducible assumption) (by with_reducible assumption)) (by with_reducible assumption)).symm
    | exact (congrArg Prod.fst (q_rd (q_f3 (q_e2 (by with_reducible assumption) (by with_reducible assumption)) (by with_reducible assumption)))).symm
    | exact congrArg Prod.snd (q_rd (q_f3 (q_e2 (by with_reducible assumption) (by with_reducible assumption)) (by with_reducible assumption)))
    | exact (q_t (q_e1 (by with_reducible assumption) (by with_reducible assumption)) (q_w1 (by with_reducible assumption)) (by with_reducible assumption) (by with_reducible assumption) (by with_reducible assumption)).1.symm
    | exact (congrArg Prod.fst (q_t (q_e1 (by with_reducible assumption) (by with_reducible assumption)) (q_w1 (by with_reducible assumption)) (by with_reducible assumption) (by with_reducible assumption) (by with_reducible assumption)).2).symm
    | exact (congrArg Prod.snd (q_t (q_e1 (by with_reducible assumption) (by with_reducible assumption)) (q_w1 (by with_reducible assumption)) (by with_reducible assumption) (by with_reducible assumption) (by with_reducible assumption)).2).symm
    | exact (q_t (q_e1 (by with_reducible assumption) (by with_reducible assumption)) (q_w2 (by with_reducible assumption)) (by with_reducible assumption) (by with_reducible assumption) (by with_reducible assumption)).1.symm
    | exact (congrArg Prod.fst (q_t (q_e1 (by with_reducible assumption) (by with_reducible assumption)) (q_w2 (by with_reducible assumption)) (by with_reducible assumption) (by with_reducible assumption) (by with_reducible assumption)).2).symm
    | exact (congrArg Prod.snd (q_t (q_e1 (by with_reducible assumption) (by with_reducible assumption)) (q_w2 (by with_reducible assumption)) (by with_reducible assumption) (by with_reducible assumption) (by with_reducible assumption)).2).symm
    | exact (q_t (q_e3 (by with_reducible assumption) (by with_reducible assumption)) (q_w1 (by with_reducible assumption)) (by with_reducible assumption) (by with_reducible assumption) (by with_reducible assumption)).1.symm
    | exact (congrArg Prod.fst (q_t (q_e3 (by with_reducible assumption) (by with_reducible assumption)) (q_w1 (by with_reducible assumption)) (by with_reducible assumption) (by with_reducible assumption) (by with_reducible assumption)).2).symm
    | exact (congrArg Prod.snd (q_t (q_e3 (by with_reducible assumption) (by with_reducible assumption)) (q_w1 (by with_reducible assumption)) (by with_reducible assumption) (by with_reducible assumption) (by with_reducible assumption)).2).symm
    | exact (q_t (q_e3 (by with_reducible assumption) (by with_reducible assumption)) (q_w2 (by with_reducible assumption)) (by with_reducible assumption) (by with_reducible assumption) (by with_reducible assumption)).1.symm
    | exact (congrArg Prod.fst (q_t (q_e3 (by with_reducible assumption) (by with_reducible assumption)) (q_w2 (by with_reducible assumption)) (by with_reducible assumption) (by with_reducible assumption) (by with_reducible assumption)).2).symm
    | exact (congrArg Prod.snd (q_t (q_e3 (by with_reducible assumption) (by with_reducible assumption)) (q_w2 (by with_reducible assumption)) (by with_reducible assumption) (by with_reducible assumption) (by with_reducible assumption)).2).symm
def e_s_ReadFilter : Entry Try.prog := ⟨14, [.v (.list tyToken)], fun x => List.length x.1 ≤ 1048576, fun x => .tp [.ag [.bool (rdS x.1).1, .row 0 0], .c (.bool (ok6B x.1))], fun x => [.row tyScope (rdS x.1).2 0 0 none], fun x hx => b_s_ReadFilter x.1 hx, Try.call14⟩
end Go.Proofs.Ytoigkpkafgjeaaa
