/-
  The program's taker of tokens.
  No condition but what the arguments' cells hold. Printed by vcgen.py.
-/
import Derived.Test.YtoigkpkafgjeaaaABlFt
set_option linter.unusedSimpArgs false
set_option linter.unusedVariables false
set_option maxRecDepth 100000
set_option maxHeartbeats 4000000
namespace Go.Proofs.Ytoigkpkafgjeaaa
open Go.ChangeShapes Go.WideShapes Go.ChangeAt Go.RowKit Go.Joins Go.Deep
open GoRep (rep bulk)

def tkT (l : List GToken) : GToken := if l.length = 0 then (0, (⟨#[]⟩ : ByteArray)) else nth_Token l 0
def isAt (t : GToken) : Bool := decide (t.1 = 1)
/-- how many atoms stand first -/
def atN (l : List GToken) : Nat := (l.takeWhile isAt).length
def txN (l : List GToken) (n : Nat) : List ByteArray := (l.take n).map (fun t => t.2)
def grpT (l : List GToken) : List ByteArray := if (tkT l).1 = 3 then txN (l.drop 1) (atN (l.drop 1)) else []
def grpR (l : List GToken) : List GToken := if (tkT l).1 = 3 then l.drop (1 + atN (l.drop 1) + 1) else l.drop 1
theorem tkT_at {l : List GToken} {n : Nat} (h : n < l.length) : tkT (l.drop n) = nth_Token l n := by
  have h1 : ¬ (l.drop n).length = 0 := by rw [List.length_drop]; omega
  unfold tkT
  rw [if_neg h1]
  show List.getD (l.drop n) 0 ((0, (⟨#[]⟩ : ByteArray)) : GToken) = List.getD l n ((0, (⟨#[]⟩ : ByteArray)) : GToken)
  rw [List.getD_eq_getElem?_getD, List.getD_eq_getElem?_getD, List.getElem?_drop, Nat.add_zero]
theorem tkT_end {l : List GToken} {n : Nat} (h : l.length ≤ n) : tkT (l.drop n) = (0, (⟨#[]⟩ : ByteArray)) := by
  unfold tkT
  rw [if_pos (by rw [List.length_drop]; omega)]
theorem tkT_nil {l : List GToken} (h : l.length = 0) : tkT l = (0, (⟨#[]⟩ : ByteArray)) := if_pos h
theorem tkT_cons {l : List GToken} (h : ¬ l.length = 0) : tkT l = nth_Token l 0 := if_neg h
theorem drop_nil {l : List GToken} (h : l.length = 0) : l.drop 1 = l := by
  obtain rfl := List.eq_nil_of_length_eq_zero h
  rfl
theorem atN_at : ∀ {l : List GToken} {n : Nat}, n ≤ l.length → (∀ j, j < n → (nth_Token l j).1 = 1) → (tkT (l.drop n)).1 ≠ 1 → atN l = n
  | [], n, h, _, _ => by
    have : n = 0 := Nat.le_zero.1 h
    rw [this]
    rfl
  | t :: l, 0, h, _, h2 => by
    have e : tkT ((t :: l).drop 0) = t := rfl
    rw [e] at h2
    unfold atN
    rw [List.takeWhile_cons_of_neg (by unfold isAt; rw [decide_eq_true_eq]; exact h2)]
    rfl
  | t :: l, n + 1, h, h1, h2 => by
    have e0 := h1 0 (Nat.succ_pos _)
    have e : t.1 = 1 := e0
    have ih := atN_at (l := l) (n := n) (Nat.le_of_succ_le_succ h) (fun j hj => h1 (j + 1) (by omega)) h2
    unfold atN at ih ⊢
    rw [List.takeWhile_cons_of_pos (by unfold isAt; rw [decide_eq_true_eq]; exact e), List.length_cons, ih]
theorem txN_succ {l : List GToken} {n : Nat} (h : n < l.length) : txN l (n + 1) = txN l n ++ [(nth_Token l n).2] := by
  unfold txN
  have : l[n]? = some (nth_Token l n) := nth_getElem? (t := tyToken) h
  rw [List.take_add_one, this, List.map_append]
  rfl
theorem txN_len (l : List GToken) (n : Nat) : (txN l n).length ≤ n := by
  unfold txN
  rw [List.length_map, List.length_take]
  omega
theorem grpT_len (l : List GToken) : (grpT l).length ≤ l.length := by
  unfold grpT
  split
  · unfold txN
    rw [List.length_map, List.length_take, List.length_drop]
    omega
  · exact Nat.zero_le _
theorem leC_tok {a b : List GToken} : leC (.hs .no tyToken a) (.hs .no tyToken b) = (a = b) := leC_hs (t := tyToken)
theorem leC_tokD {a : List tyToken.den} {b : List GToken} : leC (.hs .no tyToken a) (.hs .no tyToken b) = ((a : List GToken) = b) := leC_hs (t := tyToken)
theorem leB_tok {a b : List GToken} : leB (.box [.hs .no tyToken a]) (.box [.hs .no tyToken b]) = (a = b) := by
  refine propext ⟨fun h => ?_, fun h => ?_⟩
  · have h := leB_eq h
    injection h with h
    injection h with h _
    injection h
  · cases h
    exact Eq.mpr leB_refl trivial
def dropT (n : Nat) (l : List GToken) : List GToken := l.drop n
theorem dropT_len (n : Nat) (l : List GToken) : (dropT n l).length = l.length - n := List.length_drop
theorem grp_no {k : List GToken} (h : ¬ (tkT k).1 = 3) : dropT 1 k = grpR k ∧ grpT k = [] := ⟨(if_neg h).symm, if_neg h⟩
section
variable {k : List GToken} {y : Nat}
def grI (k : List GToken) (y : Nat) : Prop := y ≤ (dropT 1 k).length ∧ ∀ j, j < y → (nth_Token (dropT 1 k) j).1 = 1
theorem gr_n (h : (tkT k).1 = 3) (hi : grI k y) (hn : ¬ (tkT (dropT y (dropT 1 k))).1 = 1) : atN (dropT 1 k) = y := atN_at hi.1 hi.2 hn
theorem gr_r (h : (tkT k).1 = 3) (hi : grI k y) (hn : ¬ (tkT (dropT y (dropT 1 k))).1 = 1) : dropT 1 (dropT y (dropT 1 k)) = grpR k := by
  unfold grpR
  have e := gr_n h hi hn
  unfold dropT at e ⊢
  rw [if_pos h, e, List.drop_drop, List.drop_drop]
  rfl
theorem gr_t (h : (tkT k).1 = 3) (hi : grI k y) (hn : ¬ (tkT (dropT y (dropT 1 k))).1 = 1) : txN (dropT 1 k) y = grpT k := by
  have e := gr_n h hi hn
  unfold grpT
  unfold dropT at e ⊢
  rw [if_pos h, e]
theorem gr_0 : ∃ q : Nat, grI k q ∧ dropT 1 k = dropT q (dropT 1 k) ∧ ([] : List ByteArray) = txN (dropT 1 k) q := ⟨0, ⟨Nat.zero_le _, fun j hj => absurd hj (Nat.not_lt_zero j)⟩, rfl, rfl⟩
theorem gr_l (hp : k.length ≤ 1048576) (hi : grI k y) {x : ByteArray} : (txN (dropT 1 k) y).length + [x].length ≤ rowMax := by
  have h1 := txN_len (dropT 1 k) y
  have h2 := hi.1
  unfold dropT at h1 h2 ⊢
  rw [List.length_drop] at h2
  rw [List.length_singleton]
  unfold rowMax
  omega
theorem gr_s (hi : grI k y) (hn : (tkT (dropT y (dropT 1 k))).1 = 1) : ∃ y' : Nat, grI k y' ∧ k.length - y' < k.length - y ∧ dropT 1 (dropT y (dropT 1 k)) = dropT y' (dropT 1 k) ∧ txN (dropT 1 k) y ++ [(tkT (dropT y (dropT 1 k))).2] = txN (dropT 1 k) y' := by
  have hlt : y < (dropT 1 k).length := Nat.lt_of_not_le fun h => by
    unfold dropT at hn h
    rw [tkT_end h] at hn
    cases hn
  have h2 := hlt
  unfold dropT at h2
  rw [List.length_drop] at h2
  have e := tkT_at hlt
  refine ⟨y + 1, ⟨hlt, fun j hj => ?_⟩, by omega, by unfold dropT; rw [List.drop_drop, List.drop_drop], by rw [txN_succ hlt, ← e]; rfl⟩
  by_cases hj' : j < y
  · exact hi.2 j hj'
  · obtain rfl : j = y := by omega
    rw [← e]
    exact hn
end
theorem grpR_len (l : List GToken) : (grpR l).length ≤ l.length := by
  unfold grpR
  split <;> (rw [List.length_drop]; omega)
theorem m_i_taker_take (k : List GToken) : MCalls Try.prog 36 (argsM 0 [(.b (.list tyToken))] (k, ())) (preM 0 [(.b (.list tyToken))] (k, ())) (postM 0 [(.b (.list tyToken))] ((dropT 1 k), ()) ++ []) (inpM 0 [(.b (.list tyToken))]) (.ag [.int .i64 (tkT k).1, .str (tkT k).2]) := by
  refine mcalls_of (T := ⟨[], [], [], [], none, fun _ => [], 1, [], []⟩) (L := L0) Try.func36 rfl rfl rfl (by kernel_rfl) (fun hwf hwm => ?_)
  refine Eq.mpr (β := (T7 (bif (eqI ((List.length k : Nat) : Int) 0) then (T2 ((((((true = true ∧ leC (.hs .no tyToken k) (.hs .no tyToken (dropT 1 k))) ∧ True)) ∧ True) ∧ (((true = true ∧ leC (.int .i64 0) (.int .i64 (tkT k).1)) ∧ (true = true ∧ leC (.str (⟨#[]⟩ : ByteArray)) (.str (tkT k).2)) ∧ True))) ∧ true = true)) else (T4 (((2 : Nat) = 2 ∧ (0 : Int) ≤ 0 ∧ (0 : Int) < ((List.length k : Nat) : Int)) ∧ (T8 (((2 : Nat) = 2 ∧ ((0 : Int) ≤ 1 ∧ (1 : Int) ≤ ((List.length k : Nat) : Int) ∧ (((List.length k : Nat) : Int) : Int) ≤ ((List.length k : Nat) : Int))) ∧ (T5 ((((((true = true ∧ leC (.hs .no tyToken (List.drop (Int.toNat 1) (List.take (Int.toNat ((List.length k : Nat) : Int)) k))) (.hs .no tyToken (dropT 1 k))) ∧ True)) ∧ True) ∧ (((true = true ∧ leC (.int .i64 (nth_Token k (Int.toNat 0)).1) (.int .i64 (tkT k).1)) ∧ (true = true ∧ leC (.str (nth_Token k (Int.toNat 0)).2) (.str (tkT k).2)) ∧ True))) ∧ true = true))))))))) (by kernel_rfl) ?_
  unfold T2 T4 T5 T7 T8
  simp only [leB_tok, leC_tok, leC_tokD, SI2A, eq_self]
  repeat' (with_reducible first | exact trivial | apply And.intro | intro _)
  all_goals first
    | (with_reducible trivial)
    | omega
    | (with_reducible assumption)
    | (rename_i h; rw [tkT_nil (by omega)]; done)
    | (rename_i h; rw [tkT_cons (by omega)]; rfl)
    | (rename_i h; exact (drop_nil (by omega)).symm)
    | exact congrArg (fun z : List GToken => List.drop 1 z) (List.take_of_length_le (Nat.le_refl (List.length k)))
def e_i_taker_take : MEntry Try.prog := ⟨36, [(.b (.list tyToken))], fun x => True, fun x => ((dropT 1 x.1), ()), fun x => .ag [.int .i64 (tkT x.1).1, .str (tkT x.1).2], fun _ => [], fun x hx => m_i_taker_take x.1, Try.call36⟩
def L_i_taker_group (k : List GToken) : Nat → List AV → Mem → LoopA
  | 4, tm, M => ⟨Nat, fun y => (anyR (setA tm [(2, .any), (3, .c (.row 1 0)), (4, .any)]) 9 12, setM M [(0, .box [.hs .no tyToken (dropT y (dropT 1 k))]), (1, .row tyStr (txN (dropT 1 k) y) 0 0 none)]), fun y => (grI k y), fun y => (List.length k - y)⟩
  | _, _, _ => ⟨Unit, fun _ => ([], []), fun _ => False, fun _ => 0⟩
def k0qest5 (k : List GToken) : Prop := (True ∧ lxs [.c (.row 1 0)] (True ∧ lxs [.c (.bp 0 0), .ag [.int .i64 (tkT k).1, .str (tkT k).2], .c (.int .i64 (tkT k).1), .c (.bool false)] (TN 12 True)))
theorem m_i_taker_group (k : List GToken) (hpre : List.length k ≤ 1048576) : MCalls Try.prog 68 (argsM 0 [(.b (.list tyToken))] (k, ())) (preM 0 [(.b (.list tyToken))] (k, ())) (postM 0 [(.b (.list tyToken))] ((grpR k), ()) ++ [.row tyStr (grpT k) 0 0 none]) (inpM 0 [(.b (.list tyToken))]) (.c (.row 1 0)) := by
  refine mcalls_of (T := ⟨[], [], [], [e_i_taker_take], none, fun _ => [], 1, [], []⟩) (L := (L_i_taker_group k)) Try.func68 rfl rfl rfl (by kernel_rfl) (fun hwf hwm => ?_)
  refine Eq.mpr (β := (T2 (((True ∧ ((((true = true ∧ leC (.hs .no tyToken k) (.hs .no tyToken k)) ∧ True)) ∧ True)) ∧ true = true) ∧ (T2 (bif (neI (tkT k).1 3) then (True ∧ ((((((true = true ∧ leC (.hs .no tyToken (dropT 1 k)) (.hs .no tyToken (grpR k))) ∧ True)) ∧ True) ∧ ((grpT k) = [])) ∧ true = true)) else (T2 ((∃ q : Nat, (grI k q) ∧ ((lxs [.c (.bp 0 0), .tp []] (k0qest5 k)) ∧ (leB (.box [.hs .no tyToken (dropT 1 k)]) (.box [.hs .no tyToken (dropT q (dropT 1 k))]) ∧ leB (.row tyStr ([] : List ByteArray) 0 0 none) (.row tyStr (txN (dropT 1 k) q) 0 0 none) ∧ True) ∧ true = true)) ∧ ∀ y0 : Nat, (grI k y0) → (True ∧ (((True ∧ ((((true = true ∧ leC (.hs .no tyToken (dropT y0 (dropT 1 k))) (.hs .no tyToken (dropT y0 (dropT 1 k)))) ∧ True)) ∧ True)) ∧ true = true) ∧ (T5 (bif (neI (tkT (dropT y0 (dropT 1 k))).1 1) then (T2 ((((((true = true ∧ leC (.hs .no tyToken (dropT 1 (dropT y0 (dropT 1 k)))) (.hs .no tyToken (grpR k))) ∧ True)) ∧ True) ∧ ((txN (dropT 1 k) y0) = (grpT k))) ∧ true = true)) else (T4 ((True ∧ List.length (txN (dropT 1 k) y0) + List.length ([(tkT (dropT y0 (dropT 1 k))).2]) ≤ rowMax) ∧ (True ∧ (∃ y0' : Nat, (grI k y0') ∧ (List.length k - y0') < (List.length k - y0) ∧ ((lxs [.c (.bp 0 0), .tp []] (k0qest5 k)) ∧ (leB (.box [.hs .no tyToken (dropT 1 (dropT y0 (dropT 1 k)))]) (.box [.hs .no tyToken (dropT y0' (dropT 1 k))]) ∧ leB (.row tyStr ((txN (dropT 1 k) y0) ++ [(tkT (dropT y0 (dropT 1 k))).2]) 0 0 none) (.row tyStr (txN (dropT 1 k) y0') 0 0 none) ∧ True) ∧ true = true)))))))))))))))) (by kernel_rfl) ?_
  unfold k0qest5 T2 T4 T5
  have hp : List.length k ≤ 1048576 := hpre
  simp only [leB_tok, leC_tok, leC_tokD, SI2A, eq_self]
  repeat' (with_reducible first | exact trivial | apply And.intro | intro _)
  all_goals first
    | (with_reducible trivial)
    | omega
    | (with_reducible assumption)
    | exact (grp_no (by with_reducible assumption)).1
    | exact (grp_no (by with_reducible assumption)).2
    | exact gr_r (by with_reducible assumption) (by with_reducible assumption) (by with_reducible assumption)
    | exact gr_t (by with_reducible assumption) (by with_reducible assumption) (by with_reducible assumption)
    | exact gr_0
    | exact gr_l hp (by with_reducible assumption)
    | exact gr_s (by with_reducible assumption) (by with_reducible assumption)
def e_i_taker_group : MEntry Try.prog := ⟨68, [(.b (.list tyToken))], fun x => List.length x.1 ≤ 1048576, fun x => ((grpR x.1), ()), fun x => .c (.row 1 0), fun x => [.row tyStr (grpT x.1) 0 0 none], fun x hx => m_i_taker_group x.1 hx, Try.call68⟩
def wIx (all : List ByteArray) (w : ByteArray) : Int := idxL (fun z : ByteArray => eqS (upT z) (upT w)) all
def bitI (b i : Int) : Bool := eqI (IntKind.wrap .i64 (((BitVec.ofInt (IntKind.bits .i64) (shrI .i64 b i) &&& BitVec.ofInt (IntKind.bits .i64) 1).toNat : Nat))) 1
def orI (b i : Int) : Int := IntKind.wrap .i64 (((BitVec.ofInt (IntKind.bits .i64) b ||| BitVec.ofInt (IntKind.bits .i64) (shlI .i64 1 i)).toNat : Nat))
def boI (all : List ByteArray) : List ByteArray → Int → Int × Bool
  | [], b => (b, true)
  | w :: ws, b => if wIx all w < 0 then (0, false) else if bitI b (wIx all w) = true then (0, false) else boI all ws (orI b (wIx all w))
theorem drop_str {l : List ByteArray} {n : Nat} (h : n < l.length) : l.drop n = nth_String l n :: l.drop (n + 1) := by
  have h1 : l[n]? = some (nth_String l n) := nth_getElem? (t := tyStr) h
  obtain ⟨hl, e⟩ := List.getElem?_eq_some_iff.1 h1
  rw [← e]
  exact List.drop_eq_getElem_cons hl
theorem bo_neg {all ws : List ByteArray} {b : Int} {n : Nat} (h : n < ws.length) (h1 : wIx all (nth_String ws n) < 0) : boI all (ws.drop n) b = (0, false) := by
  rw [drop_str h]
  exact if_pos h1
theorem bo_two {all ws : List ByteArray} {b : Int} {n : Nat} (h : n < ws.length) (h1 : ¬ wIx all (nth_String ws n) < 0) (h2 : bitI b (wIx all (nth_String ws n)) = true) : boI all (ws.drop n) b = (0, false) := by
  rw [drop_str h]
  exact (if_neg h1).trans (if_pos h2)
theorem bo_next {all ws : List ByteArray} {b : Int} {n : Nat} (h : n < ws.length) (h1 : ¬ wIx all (nth_String ws n) < 0) (h2 : bitI b (wIx all (nth_String ws n)) = false) : boI all (ws.drop n) b = boI all (ws.drop (n + 1)) (orI b (wIx all (nth_String ws n))) := by
  rw [drop_str h]
  exact (if_neg h1).trans (if_neg (by rw [h2]; decide))
theorem bo_end {all ws : List ByteArray} {b : Int} {n : Nat} (h : ws.length ≤ n) : boI all (ws.drop n) b = (b, true) := by
  rw [List.drop_of_length_le h]
  rfl
section
variable {all words : List ByteArray} {k : Nat} {b : Int}
def bsI (all words : List ByteArray) (k : Nat) (b : Int) : Prop := k ≤ words.length ∧ boI all (words.drop k) b = boI all words 0
theorem bs_0 : ∃ q : Nat × Int, bsI all words q.1 q.2 ∧ (0 : Int) = q.2 ∧ (0 : Int) = ((q.1 : Nat) : Int) := ⟨(0, 0), ⟨Nat.zero_le _, rfl⟩, rfl, rfl⟩
theorem bs_n1 (hi : bsI all words k b) (hk : ((k : Nat) : Int) < ((words.length : Nat) : Int)) (h : idxL (fun z1 : ByteArray => eqS (upT z1) (upT (nth_String words k))) all < 0) : 0 = (boI all words 0).1 := by
  rw [← hi.2, bo_neg (by omega) h]
theorem bs_n2 (hi : bsI all words k b) (hk : ((k : Nat) : Int) < ((words.length : Nat) : Int)) (h : idxL (fun z1 : ByteArray => eqS (upT z1) (upT (nth_String words k))) all < 0) : false = (boI all words 0).2 := by
  rw [← hi.2, bo_neg (by omega) h]
theorem bs_t1 (hi : bsI all words k b) (hk : ((k : Nat) : Int) < ((words.length : Nat) : Int)) (h : ¬ idxL (fun z1 : ByteArray => eqS (upT z1) (upT (nth_String words k))) all < 0) (h2 : IntKind.wrap .i64 (((BitVec.ofInt (IntKind.bits .i64) (shrI .i64 b (idxL (fun z1 : ByteArray => eqS (upT z1) (upT (nth_String words k))) all)) &&& BitVec.ofInt (IntKind.bits .i64) 1).toNat : Nat)) = 1) : 0 = (boI all words 0).1 := by
  rw [← hi.2, bo_two (by omega) h (eqI_true.2 h2)]
theorem bs_t2 (hi : bsI all words k b) (hk : ((k : Nat) : Int) < ((words.length : Nat) : Int)) (h : ¬ idxL (fun z1 : ByteArray => eqS (upT z1) (upT (nth_String words k))) all < 0) (h2 : IntKind.wrap .i64 (((BitVec.ofInt (IntKind.bits .i64) (shrI .i64 b (idxL (fun z1 : ByteArray => eqS (upT z1) (upT (nth_String words k))) all)) &&& BitVec.ofInt (IntKind.bits .i64) 1).toNat : Nat)) = 1) : false = (boI all words 0).2 := by
  rw [← hi.2, bo_two (by omega) h (eqI_true.2 h2)]
theorem bs_s (hm : words.length ≤ maxLen) (hi : bsI all words k b) (hk : ((k : Nat) : Int) < ((words.length : Nat) : Int)) (h : ¬ idxL (fun z1 : ByteArray => eqS (upT z1) (upT (nth_String words k))) all < 0) (h2 : ¬ IntKind.wrap .i64 (((BitVec.ofInt (IntKind.bits .i64) (shrI .i64 b (idxL (fun z1 : ByteArray => eqS (upT z1) (upT (nth_String words k))) all)) &&& BitVec.ofInt (IntKind.bits .i64) 1).toNat : Nat)) = 1) : ∃ y : Nat × Int, bsI all words y.1 y.2 ∧ words.length - y.1 < words.length - k ∧
    IntKind.wrap .i64 (((BitVec.ofInt (IntKind.bits .i64) b ||| BitVec.ofInt (IntKind.bits .i64) (shlI .i64 1 (idxL (fun z1 : ByteArray => eqS (upT z1) (upT (nth_String words k))) all))).toNat : Nat)) = y.2 ∧ IntKind.wrap .i64 (((k : Nat) : Int) + 1) = ((y.1 : Nat) : Int) := by
  refine ⟨(k + 1, orI b (wIx all (nth_String words k))), ⟨by show k + 1 ≤ _; omega, ?_⟩, by show _ - (k + 1) < _; omega, rfl, wrapN (by omega)⟩
  rw [← hi.2]
  exact (bo_next (by omega) h (eqI_false.2 h2)).symm
theorem bs_e1 (hi : bsI all words k b) (hk : ¬ ((k : Nat) : Int) < ((words.length : Nat) : Int)) : b = (boI all words 0).1 := by
  rw [← hi.2, bo_end (by omega)]
theorem bs_e2 (hi : bsI all words k b) (hk : ¬ ((k : Nat) : Int) < ((words.length : Nat) : Int)) : true = (boI all words 0).2 := by
  rw [← hi.2, bo_end (by omega)]
end
theorem b_i_bitsOf_1 (z : ByteArray) (w : ByteArray) : BCalls Try.prog 83 [.c (.str z), .c (.ep .no tyStr ([w]) 0 0)] (.c (.bool (eqS (upT z) (upT w)))) [] := by
  refine bc0 [e_i_Upper] [] [] [] L0 Try.func83 (fun hwf => ?_)
  refine Eq.mpr (β := (True ∧ ((true = true ∧ true = true) ∧ (True ∧ (True ∧ ((True ∧ true = true) ∧ ((True ∧ true = true) ∧ (True ∧ (True ∧ (rB (eqS (upT z) (upT w)) (eqS (upT z) (upT w)))))))))))) (by kernel_rfl) ?_
  simp only [SI2A, eq_self]
  repeat' (with_reducible first | exact trivial | apply And.intro | intro _)
  all_goals first
    | (with_reducible trivial)
    | omega
    | (with_reducible assumption)
def e_i_bitsOf_1 : Entry Try.prog := ⟨83, [.v tyStr, .p tyStr], fun x => True, fun x => .c (.bool (eqS (upT x.1) (upT x.2.1))), fun _ => [], fun x hx => b_i_bitsOf_1 x.1 x.2.1, Try.call83⟩
theorem b_i_taker_scope_1 (z : ByteArray) (w : ByteArray) : BCalls Try.prog 67 [.c (.str z), .c (.ep .no tyStr ([w]) 0 0)] (.c (.bool (eqS (upT z) (upT w)))) [] := by
  refine bc0 [e_i_Upper] [] [] [] L0 Try.func67 (fun hwf => ?_)
  refine Eq.mpr (β := (True ∧ ((true = true ∧ true = true) ∧ (True ∧ (True ∧ ((True ∧ true = true) ∧ ((True ∧ true = true) ∧ (True ∧ (True ∧ (rB (eqS (upT z) (upT w)) (eqS (upT z) (upT w)))))))))))) (by kernel_rfl) ?_
  simp only [SI2A, eq_self]
  repeat' (with_reducible first | exact trivial | apply And.intro | intro _)
  all_goals first
    | (with_reducible trivial)
    | omega
    | (with_reducible assumption)
def e_i_taker_scope_1 : Entry Try.prog := ⟨67, [.v tyStr, .p tyStr], fun x => True, fun x => .c (.bool (eqS (upT x.1) (upT x.2.1))), fun _ => [], fun x hx => b_i_taker_scope_1 x.1 x.2.1, Try.call67⟩
def L_i_bitsOf (all : List ByteArray) (words : List ByteArray) : Nat → List AV → Mem → LoopA
  | 3, tm, M => ⟨Nat × Int, fun y => (anyR (setA tm [(4, .any), (5, .any), (6, .c (.int .i64 y.2)), (8, .any), (9, .any), (12, .c (.int .i64 ((y.1 : Nat) : Int)))]) 13 20, M), fun y => (bsI all words y.1 y.2), fun y => (List.length words - y.1)⟩
  | _, _, _ => ⟨Unit, fun _ => ([], []), fun _ => False, fun _ => 0⟩
theorem b_i_bitsOf (all : List ByteArray) (words : List ByteArray) : BCalls Try.prog 69 [.c (.hs .no tyStr all), .c (.hs .no tyStr words)] (.tp [.c (.int .i64 (boI all words 0).1), .c (.bool (boI all words 0).2)]) [] := by
  refine bc0 [e_i_bitsOf_1] [e_slices_IndexFunc_string_string] [] [] (L_i_bitsOf all words) Try.func69 (fun hwf => ?_)
  refine Eq.mpr (β := (T6 ((∃ q : Nat × Int, (bsI all words q.1 q.2) ∧ ((lxs [.c (.hs .no tyStr all), .c (.hs .no tyStr words), .tp [], .tp []] (True ∧ True ∧ leV (.c (.int .i64 0)) (.c (.int .i64 q.2)) ∧ lxs [.tp []] (True ∧ True ∧ lxs [.c (.hs .no tyStr words), .c (.int .i64 ((List.length words : Nat) : Int))] (leV (.c (.int .i64 0)) (.c (.int .i64 ((q.1 : Nat) : Int))) ∧ TN 20 (lxs [.tp []] True))))) ∧ (True) ∧ true = true)) ∧ ∀ y0 : Nat × Int, (bsI all words y0.1 y0.2) → (True ∧ (bif (ltI ((y0.1 : Nat) : Int) ((List.length words : Nat) : Int)) then (((1 : Nat) = 1 ∧ (0 : Int) ≤ ((y0.1 : Nat) : Int) ∧ (((y0.1 : Nat) : Int) : Int) < ((List.length words : Nat) : Int)) ∧ (T5 (((∀ z1 : ByteArray, True ∧ True) ∧ ∀ (_ : ByteArray → Bool) (_ : List ByteArray), true = true) ∧ (T4 (bif (ltI (idxL (fun z1 : ByteArray => eqS (upT z1) (upT (nth_String words (Int.toNat ((y0.1 : Nat) : Int))))) all) 0) then (T3 ((((true = true ∧ leC (.int .i64 0) (.int .i64 (boI all words 0).1)) ∧ (true = true ∧ leC (.bool false) (.bool (boI all words 0).2)) ∧ True)) ∧ true = true)) else (T2 ((0 : Int) ≤ idxL (fun z1 : ByteArray => eqS (upT z1) (upT (nth_String words (Int.toNat ((y0.1 : Nat) : Int))))) all ∧ (T3 (bif (eqI (IntKind.wrap .i64 (((BitVec.ofInt (IntKind.bits .i64) (shrI .i64 y0.2 (idxL (fun z1 : ByteArray => eqS (upT z1) (upT (nth_String words (Int.toNat ((y0.1 : Nat) : Int))))) all)) &&& BitVec.ofInt (IntKind.bits .i64) 1).toNat : Nat))) 1) then (T2 ((((true = true ∧ leC (.int .i64 0) (.int .i64 (boI all words 0).1)) ∧ (true = true ∧ leC (.bool false) (.bool (boI all words 0).2)) ∧ True)) ∧ true = true)) else (T2 ((0 : Int) ≤ idxL (fun z1 : ByteArray => eqS (upT z1) (upT (nth_String words (Int.toNat ((y0.1 : Nat) : Int))))) all ∧ (T4 (∃ y0' : Nat × Int, (bsI all words y0'.1 y0'.2) ∧ (List.length words - y0'.1) < (List.length words - y0.1) ∧ ((lxs [.c (.hs .no tyStr all), .c (.hs .no tyStr words), .tp [], .tp []] (True ∧ True ∧ leV (.c (.int .i64 (IntKind.wrap .i64 (((BitVec.ofInt (IntKind.bits .i64) y0.2 ||| BitVec.ofInt (IntKind.bits .i64) (shlI .i64 1 (idxL (fun z1 : ByteArray => eqS (upT z1) (upT (nth_String words (Int.toNat ((y0.1 : Nat) : Int))))) all))).toNat : Nat))))) (.c (.int .i64 y0'.2)) ∧ lxs [.tp []] (True ∧ True ∧ lxs [.c (.hs .no tyStr words), .c (.int .i64 ((List.length words : Nat) : Int))] (leV (.c (.int .i64 (IntKind.wrap .i64 (((y0.1 : Nat) : Int) + 1)))) (.c (.int .i64 ((y0'.1 : Nat) : Int))) ∧ TN 20 (lxs [.tp []] True))))) ∧ (True) ∧ true = true)))))))))))))) else (T3 ((((true = true ∧ leC (.int .i64 y0.2) (.int .i64 (boI all words 0).1)) ∧ (true = true ∧ leC (.bool true) (.bool (boI all words 0).2)) ∧ True)) ∧ true = true))))))) (by kernel_rfl) ?_
  unfold T2 T3 T4 T5 T6
  have hm : List.length words ≤ maxLen := hwf.2.1.1
  simp only [SI2A, eq_self]
  repeat' (with_reducible first | exact trivial | apply And.intro | intro _)
  all_goals first
    | (with_reducible trivial)
    | omega
    | (with_reducible assumption)
    | exact bs_0
    | exact bs_n1 (by with_reducible assumption) (by with_reducible assumption) (by with_reducible assumption)
    | exact bs_n2 (by with_reducible assumption) (by with_reducible assumption) (by with_reducible assumption)
    | exact bs_t1 (by with_reducible assumption) (by with_reducible assumption) (by with_reducible assumption) (by with_reducible assumption)
    | exact bs_t2 (by with_reducible assumption) (by with_reducible assumption) (by with_reducible assumption) (by with_reducible assumption)
    | exact bs_s hm (by with_reducible assumption) (by with_reducible assumption) (by with_reducible assumption) (by with_reducible assumption)
    | exact bs_e1 (by with_reducible assumption) (by with_reducible assumption)
    | exact bs_e2 (by with_reducible assumption) (by with_reducible assumption)
def e_i_bitsOf : Entry Try.prog := ⟨69, [.v (.list tyStr), .v (.list tyStr)], fun x => True, fun x => .tp [.c (.int .i64 (boI x.1 x.2.1 0).1), .c (.bool (boI x.1 x.2.1 0).2)], fun _ => [], fun x hx => b_i_bitsOf x.1 x.2.1, Try.call69⟩
end Go.Proofs.Ytoigkpkafgjeaaa
