/-
  The reference's atoms between parentheses.
  No condition but what the arguments' cells hold. Printed by vcgen.py.
-/
import Derived.Test.YtoigkpkafgjeaaaABlR6
set_option linter.unusedSimpArgs false
set_option linter.unusedVariables false
set_option maxRecDepth 100000
set_option maxHeartbeats 4000000
namespace Go.Proofs.Ytoigkpkafgjeaaa
open Go.ChangeShapes Go.WideShapes Go.ChangeAt Go.RowKit Go.Joins Go.Deep
open GoRep (rep bulk)

/-- the tokens behind the first parenthesis -/
def ag6 (r : GL6In) : List GToken := dropT (Int.toNat (tk6R r 3).2.1) (tk6R r 3).1
def am6 (r : GL6In) (n : Nat) : GL6In := ((tk6R r 3).1, (tk6R r 3).2.1 + ((n : Nat) : Int), (tk6R r 3).2.2)
def at6T (r : GL6In) : List ByteArray := txN (ag6 r) (atN (ag6 r))
def at6R (r : GL6In) : GL6In := tk6R (am6 r (atN (ag6 r))) 4
theorem tk6_fst (r : GL6In) (k : Int) : (tk6R r k).1 = r.1 := by
  unfold tk6R
  split <;> rfl
theorem atN_le (l : List GToken) : atN l ≤ l.length := by
  unfold atN
  exact (List.takeWhile_sublist _).length_le
def agI (l : List GToken) (n : Nat) : Prop := n ≤ l.length ∧ ∀ j, j < n → (nth_Token l j).1 = 1
theorem ag_at {l : List GToken} {m n : Nat} (h : m + n < l.length) : nth_Token (dropT m l) n = nth_Token l (m + n) := by
  show List.getD (l.drop m) n ((0, (⟨#[]⟩ : ByteArray)) : GToken) = List.getD l (m + n) ((0, (⟨#[]⟩ : ByteArray)) : GToken)
  rw [List.getD_eq_getElem?_getD, List.getD_eq_getElem?_getD, List.getElem?_drop]
theorem ag_len {r : GL6In} (h : ok6 r) : (((ag6 r).length : Nat) : Int) = (((tk6R r 3).1.length : Nat) : Int) - (tk6R r 3).2.1 := by
  have h2 := (tk6_ok 3 h).1
  unfold ag6
  rw [dropT_len]
  omega
section
variable {r : GL6In} {n : Nat}
theorem am_ok (h : ok6 r) (hi : agI (ag6 r) n) : ok6 (am6 r n) := by
  have h1 := tk6_ok 3 h
  have h2 := ag_len h
  have h3 := hi.1
  refine ⟨⟨?_, ?_⟩, h1.2⟩
  · show 0 ≤ (tk6R r 3).2.1 + ((n : Nat) : Int)
    have := h1.1.1
    omega
  · show (tk6R r 3).2.1 + ((n : Nat) : Int) ≤ _
    show _ ≤ (((tk6R r 3).1.length : Nat) : Int)
    omega
theorem am_nth (h : ok6 r) (hlt : (tk6R r 3).2.1 + ((n : Nat) : Int) < (((tk6R r 3).1.length : Nat) : Int)) : nth_Token (tk6R r 3).1 (Int.toNat ((tk6R r 3).2.1 + ((n : Nat) : Int))) = nth_Token (ag6 r) n := by
  have h1 := (tk6_ok 3 h).1.1
  unfold ag6
  rw [ag_at (by omega)]
  congr 1
  omega
theorem ag_0 : ∃ q : Nat, agI (ag6 r) q ∧ ((tk6R r 3).1, (tk6R r 3).2.1, (tk6R r 3).2.2) = ((tk6R r 3).1, (tk6R r 3).2.1 + ((q : Nat) : Int), (tk6R r 3).2.2) ∧ ([] : List ByteArray) = txN (ag6 r) q := by
  refine ⟨0, ⟨Nat.zero_le _, fun j hj => absurd hj (Nat.not_lt_zero j)⟩, ?_, rfl⟩
  rw [show (tk6R r 3).2.1 + ((0 : Nat) : Int) = (tk6R r 3).2.1 by omega]
theorem ag_s (h : ok6 r) (hi : agI (ag6 r) n) (hlt : (tk6R r 3).2.1 + ((n : Nat) : Int) < (((tk6R r 3).1.length : Nat) : Int)) (h1 : (nth_Token (tk6R r 3).1 (Int.toNat ((tk6R r 3).2.1 + ((n : Nat) : Int)))).1 = 1) :
    agI (ag6 r) (n + 1) ∧ tk6T (am6 r n) 1 = (nth_Token (ag6 r) n).2 ∧ tk6R (am6 r n) 1 = am6 r (n + 1) := by
  have hy : tk6Y (am6 r n) 1 = true := t6_y hlt h1 (.inl rfl)
  have e := am_nth h hlt
  have h2 := ag_len h
  refine ⟨⟨by omega, fun j hj => ?_⟩, ?_, ?_⟩
  · by_cases hj' : j < n
    · exact hi.2 j hj'
    · obtain rfl : j = n := by omega
      rw [← e]
      exact h1
  · rw [← t6_t hy, ← e]
    rfl
  · rw [t6_r hy]
    show ((tk6R r 3).1, (tk6R r 3).2.1 + ((n : Nat) : Int) + 1, (tk6R r 3).2.2) = ((tk6R r 3).1, (tk6R r 3).2.1 + ((n + 1 : Nat) : Int), (tk6R r 3).2.2)
    rw [show (tk6R r 3).2.1 + ((n : Nat) : Int) + 1 = (tk6R r 3).2.1 + ((n + 1 : Nat) : Int) by omega]
theorem ag_n1 (h : ok6 r) (hi : agI (ag6 r) n) (hlt : ¬ (tk6R r 3).2.1 + ((n : Nat) : Int) < (((tk6R r 3).1.length : Nat) : Int)) : atN (ag6 r) = n := by
  have h2 := ag_len h
  refine atN_at hi.1 hi.2 ?_
  rw [tkT_end (by omega)]
  show (0 : Int) ≠ 1
  decide
theorem ag_n2 (h : ok6 r) (hi : agI (ag6 r) n) (hlt : (tk6R r 3).2.1 + ((n : Nat) : Int) < (((tk6R r 3).1.length : Nat) : Int)) (h1 : ¬ (nth_Token (tk6R r 3).1 (Int.toNat ((tk6R r 3).2.1 + ((n : Nat) : Int)))).1 = 1) : atN (ag6 r) = n := by
  have h2 := ag_len h
  refine atN_at hi.1 hi.2 ?_
  rw [tkT_at (by omega), ← am_nth h hlt]
  exact h1
theorem ag_l (h : ok6 r) (hi : agI (ag6 r) n) {x : ByteArray} : (txN (ag6 r) n).length + [x].length ≤ rowMax := by
  have h1 := txN_len (ag6 r) n
  have h2 := ag_len h
  have h3 := hi.1
  have h4 := (tk6_ok 3 h).2
  have h5 := (tk6_ok 3 h).1.1
  rw [List.length_singleton]
  unfold rowMax
  omega
theorem ag_e (h : ok6 r) (hi : agI (ag6 r) n) (hlt : (tk6R r 3).2.1 + ((n : Nat) : Int) < (((tk6R r 3).1.length : Nat) : Int)) (h1 : (nth_Token (tk6R r 3).1 (Int.toNat ((tk6R r 3).2.1 + ((n : Nat) : Int)))).1 = 1) :
    ∃ m : Nat, agI (ag6 r) m ∧ (ag6 r).length - m < (ag6 r).length - n ∧ ((tk6R (am6 r n) 1).1, (tk6R (am6 r n) 1).2.1, (tk6R (am6 r n) 1).2.2) = ((tk6R r 3).1, (tk6R r 3).2.1 + ((m : Nat) : Int), (tk6R r 3).2.2) ∧ txN (ag6 r) n ++ [tk6T (am6 r n) 1] = txN (ag6 r) m := by
  obtain ⟨a1, a2, a3⟩ := ag_s h hi hlt h1
  have h2 := a1.1
  refine ⟨n + 1, a1, by omega, ?_, ?_⟩
  · rw [a3]
    rfl
  · rw [a2, txN_succ (by omega)]
theorem ag_f (e : atN (ag6 r) = n) : tk6R (am6 r n) 4 = at6R r := by
  unfold at6R
  rw [e]
theorem ag_t (e : atN (ag6 r) = n) : txN (ag6 r) n = at6T r := by
  unfold at6T
  rw [e]
theorem at6_ok (h : ok6 r) : ok6 (at6R r) := tk6_ok 4 (am_ok h ⟨atN_le _, fun j hj => by
  have h1 : j < (ag6 r).length := Nat.lt_of_lt_of_le hj (atN_le _)
  have h2 : (ag6 r)[j]? = some (nth_Token (ag6 r) j) := nth_getElem? (t := tyToken) h1
  have h3 : ((ag6 r).takeWhile isAt)[j]? = (ag6 r)[j]? := by
    have hp := List.takeWhile_prefix isAt (l := ag6 r)
    obtain ⟨t, ht⟩ := hp
    have h6 := List.getElem?_append_left (l₂ := t) hj
    rw [ht] at h6
    exact h6.symm
  have h4 := List.mem_of_getElem? (h3.trans h2)
  have h5 := List.all_eq_true.1 (List.all_takeWhile (p := isAt) (l := ag6 r)) _ h4
  exact of_decide_eq_true h5⟩)
end
def L_s_l6Atoms (r : GL6In) : Nat → List AV → Mem → LoopA
  | 3, tm, M => ⟨Nat, fun y => (anyR (setA tm [(3, .c (.row 1 0)), (4, .any)]) 7 29, setM M [(0, .box [.hs .no tyToken (tk6R r 3).1, .int .i64 ((tk6R r 3).2.1 + ((y : Nat) : Int)), .bool (tk6R r 3).2.2]), (1, .row tyStr (txN (ag6 r) y) 0 0 none)]), fun y => (agI (ag6 r) y), fun y => (List.length (ag6 r) - y)⟩
  | _, _, _ => ⟨Unit, fun _ => ([], []), fun _ => False, fun _ => 0⟩
def k1oocv8 (r : GL6In) (y0 : Nat) : Prop := ((ok6 ((tk6R r 3).1, (((tk6R r 3).2.1 + ((y0 : Nat) : Int)), (tk6R r 3).2.2)) ∧ ((((true = true ∧ leC (.hs .no tyToken (tk6R r 3).1) (.hs .no tyToken (tk6R r 3).1)) ∧ (true = true ∧ leC (.int .i64 ((tk6R r 3).2.1 + ((y0 : Nat) : Int))) (.int .i64 ((tk6R r 3).2.1 + ((y0 : Nat) : Int)))) ∧ (true = true ∧ leC (.bool (tk6R r 3).2.2) (.bool (tk6R r 3).2.2)) ∧ True)) ∧ True)) ∧ true = true)
def k0oocv8 (r : GL6In) (y0 : Nat) : Prop := (True ∧ ((k1oocv8 r y0) ∧ (T2 ((((((true = true ∧ leC (.hs .no tyToken (tk6R ((tk6R r 3).1, (((tk6R r 3).2.1 + ((y0 : Nat) : Int)), (tk6R r 3).2.2)) 4).1) (.hs .no tyToken (at6R r).1)) ∧ (true = true ∧ leC (.int .i64 (tk6R ((tk6R r 3).1, (((tk6R r 3).2.1 + ((y0 : Nat) : Int)), (tk6R r 3).2.2)) 4).2.1) (.int .i64 (at6R r).2.1)) ∧ (true = true ∧ leC (.bool (tk6R ((tk6R r 3).1, (((tk6R r 3).2.1 + ((y0 : Nat) : Int)), (tk6R r 3).2.2)) 4).2.2) (.bool (at6R r).2.2)) ∧ True)) ∧ True) ∧ ((txN (ag6 r) y0) = (at6T r))) ∧ true = true))))
theorem m_s_l6Atoms (r : GL6In) (hpre : ok6 r) : MCalls Try.prog 45 (argsM 0 [(.b tyL6In)] (r, ())) (preM 0 [(.b tyL6In)] (r, ())) (postM 0 [(.b tyL6In)] ((at6R r), ()) ++ [.row tyStr (at6T r) 0 0 none]) (inpM 0 [(.b tyL6In)]) (.c (.row 1 0)) := by
  refine mcalls_of (T := ⟨[], [], [], [e_s_l6Take], none, fun _ => [], 1, [], []⟩) (L := (L_s_l6Atoms r)) Try.func45 rfl rfl rfl (by kernel_rfl) (fun hwf hwm => ?_)
  refine Eq.mpr (β := (T4 (((ok6 r ∧ ((((true = true ∧ leC (.hs .no tyToken r.1) (.hs .no tyToken r.1)) ∧ (true = true ∧ leC (.int .i64 r.2.1) (.int .i64 r.2.1)) ∧ (true = true ∧ leC (.bool r.2.2) (.bool r.2.2)) ∧ True)) ∧ True)) ∧ true = true) ∧ ((∃ q : Nat, (agI (ag6 r) q) ∧ ((lxs [.c (.bp 0 0), .tp [], .c (.raw (.slice none 0 0)), .c (.row 1 0)] (True ∧ lxs [.c (.bp 0 0), .c (.str (tk6T r 3))] (TN 29 (lxs [.tp [], .tp [], .tp []] True)))) ∧ (leB (.box [.hs .no tyToken (tk6R r 3).1, .int .i64 (tk6R r 3).2.1, .bool (tk6R r 3).2.2]) (.box [.hs .no tyToken (tk6R r 3).1, .int .i64 ((tk6R r 3).2.1 + ((q : Nat) : Int)), .bool (tk6R r 3).2.2]) ∧ leB (.row tyStr ([] : List ByteArray) 0 0 none) (.row tyStr (txN (ag6 r) q) 0 0 none) ∧ True) ∧ true = true)) ∧ ∀ y0 : Nat, (agI (ag6 r) y0) → ((true = true ∧ true = true) ∧ (T11 (bif (ltI ((tk6R r 3).2.1 + ((y0 : Nat) : Int)) ((List.length (tk6R r 3).1 : Nat) : Int)) then (T8 (((2 : Nat) = 2 ∧ (0 : Int) ≤ ((tk6R r 3).2.1 + ((y0 : Nat) : Int)) ∧ (((tk6R r 3).2.1 + ((y0 : Nat) : Int)) : Int) < ((List.length (tk6R r 3).1 : Nat) : Int)) ∧ (T4 (bif (eqI (nth_Token (tk6R r 3).1 (Int.toNat ((tk6R r 3).2.1 + ((y0 : Nat) : Int)))).1 1) then (T2 ((k1oocv8 r y0) ∧ (True ∧ ((True ∧ List.length (txN (ag6 r) y0) + List.length ([(tk6T ((tk6R r 3).1, (((tk6R r 3).2.1 + ((y0 : Nat) : Int)), (tk6R r 3).2.2)) 1)]) ≤ rowMax) ∧ (True ∧ (∃ y0' : Nat, (agI (ag6 r) y0') ∧ (List.length (ag6 r) - y0') < (List.length (ag6 r) - y0) ∧ ((lxs [.c (.bp 0 0), .tp [], .c (.raw (.slice none 0 0)), .c (.row 1 0)] (True ∧ lxs [.c (.bp 0 0), .c (.str (tk6T r 3))] (TN 29 (lxs [.tp [], .tp [], .tp []] True)))) ∧ (leB (.box [.hs .no tyToken (tk6R ((tk6R r 3).1, (((tk6R r 3).2.1 + ((y0 : Nat) : Int)), (tk6R r 3).2.2)) 1).1, .int .i64 (tk6R ((tk6R r 3).1, (((tk6R r 3).2.1 + ((y0 : Nat) : Int)), (tk6R r 3).2.2)) 1).2.1, .bool (tk6R ((tk6R r 3).1, (((tk6R r 3).2.1 + ((y0 : Nat) : Int)), (tk6R r 3).2.2)) 1).2.2]) (.box [.hs .no tyToken (tk6R r 3).1, .int .i64 ((tk6R r 3).2.1 + ((y0' : Nat) : Int)), .bool (tk6R r 3).2.2]) ∧ leB (.row tyStr ((txN (ag6 r) y0) ++ [(tk6T ((tk6R r 3).1, (((tk6R r 3).2.1 + ((y0 : Nat) : Int)), (tk6R r 3).2.2)) 1)]) 0 0 none) (.row tyStr (txN (ag6 r) y0') 0 0 none) ∧ True) ∧ true = true))))))) else (k0oocv8 r y0))))) else (True ∧ (k0oocv8 r y0))))))))) (by kernel_rfl) ?_
  unfold k0oocv8 k1oocv8 T11 T2 T4 T8
  have h0 : ok6 r := hpre
  simp only [leB_l6, leC_tok, SI2A, eq_self]
  repeat' (with_reducible first | exact trivial | apply And.intro | intro _)
  all_goals first
    | (with_reducible trivial)
    | omega
    | (with_reducible assumption)
    | exact h0
    | exact ag_0
    | (have h1 := (tk6_ok 3 h0).1.1; omega)
    | exact am_ok h0 (by with_reducible assumption)
    | exact ag_l h0 (by with_reducible assumption)
    | exact ag_e h0 (by with_reducible assumption) (by with_reducible assumption) (by with_reducible assumption)
    | exact congrArg (fun z : GL6In => z.1) (ag_f (ag_n2 h0 (by with_reducible assumption) (by with_reducible assumption) (by with_reducible assumption)))
    | exact congrArg (fun z : GL6In => z.2.1) (ag_f (ag_n2 h0 (by with_reducible assumption) (by with_reducible assumption) (by with_reducible assumption)))
    | exact congrArg (fun z : GL6In => z.2.2) (ag_f (ag_n2 h0 (by with_reducible assumption) (by with_reducible assumption) (by with_reducible assumption)))
    | exact ag_t (ag_n2 h0 (by with_reducible assumption) (by with_reducible assumption) (by with_reducible assumption))
    | exact congrArg (fun z : GL6In => z.1) (ag_f (ag_n1 h0 (by with_reducible assumption) (by with_reducible assumption)))
    | exact congrArg (fun z : GL6In => z.2.1) (ag_f (ag_n1 h0 (by with_reducible assumption) (by with_reducible assumption)))
    | exact congrArg (fun z : GL6In => z.2.2) (ag_f (ag_n1 h0 (by with_reducible assumption) (by with_reducible assumption)))
    | exact ag_t (ag_n1 h0 (by with_reducible assumption) (by with_reducible assumption))
def e_s_l6Atoms : MEntry Try.prog := ⟨45, [(.b tyL6In)], fun x => ok6 x.1, fun x => ((at6R x.1), ()), fun x => .c (.row 1 0), fun x => [.row tyStr (at6T x.1) 0 0 none], fun x hx => m_s_l6Atoms x.1 hx, Try.call45⟩
end Go.Proofs.Ytoigkpkafgjeaaa
