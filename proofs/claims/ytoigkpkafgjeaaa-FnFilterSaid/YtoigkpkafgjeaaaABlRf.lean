/-
  The program's ReadFilter.
  No condition but what the arguments' cells hold. Printed by vcgen.py.
-/
import Derived.Test.YtoigkpkafgjeaaaABlRd
set_option linter.unusedSimpArgs false
set_option linter.unusedVariables false
set_option maxRecDepth 100000
set_option maxHeartbeats 4000000
namespace Go.Proofs.Ytoigkpkafgjeaaa
open Go.ChangeShapes Go.WideShapes Go.ChangeAt Go.RowKit Go.Joins Go.Deep
open GoRep (rep bulk)

def hasNm (k : Int) : Bool := eqI k 3 || eqI k 4
def scpK (l : List GToken) : Int := wIx scW (tkT l).2
def scpA (l : List GToken) : List GToken := if hasNm (scpK l) = true then grpR (dropT 1 l) else dropT 1 l
def scpT (l : List GToken) : GScope := (scpK l, (if hasNm (scpK l) = true then grpT (dropT 1 l) else []), (boI evW (grpT (scpA l)) 0).1)
def scpR (l : List GToken) : List GToken := dropT 1 (grpR (scpA l))
theorem scpA_y {l : List GToken} (h : hasNm (scpK l) = true) : scpA l = grpR (dropT 1 l) := if_pos h
theorem scpA_n {l : List GToken} (h : hasNm (scpK l) = false) : scpA l = dropT 1 l := if_neg (by rw [h]; decide)
theorem scpT_y {l : List GToken} (h : hasNm (scpK l) = true) : scpT l = (scpK l, grpT (dropT 1 l), (boI evW (grpT (grpR (dropT 1 l))) 0).1) := by
  unfold scpT
  rw [scpA_y h, if_pos h]
theorem scpT_n {l : List GToken} (h : hasNm (scpK l) = false) : scpT l = (scpK l, [], (boI evW (grpT (dropT 1 l)) 0).1) := by
  unfold scpT
  rw [scpA_n h, if_neg (by rw [h]; decide)]
theorem scpR_y {l : List GToken} (h : hasNm (scpK l) = true) : scpR l = dropT 1 (grpR (grpR (dropT 1 l))) := by
  unfold scpR
  rw [scpA_y h]
theorem scpR_n {l : List GToken} (h : hasNm (scpK l) = false) : scpR l = dropT 1 (grpR (dropT 1 l)) := by
  unfold scpR
  rw [scpA_n h]
theorem scpA_len (l : List GToken) : (scpA l).length ≤ l.length := by
  unfold scpA
  split
  · exact Nat.le_trans (grpR_len _) (by rw [dropT_len]; omega)
  · rw [dropT_len]; omega
theorem scpR_len (l : List GToken) : (scpR l).length ≤ l.length := by
  unfold scpR
  rw [dropT_len]
  have := grpR_len (scpA l)
  have := scpA_len l
  omega
def foldB (x y : GToken) : Bool := eqI x.1 y.1 && (eqS x.2 y.2 || (eqI x.1 1 && eqS (upT x.2) (upT y.2)))
def scsF : Nat → List GToken → List GScope
  | 0, _ => []
  | n + 1, l => if l.length = 0 then [] else scpT (dropT 1 l) :: scsF n (scpR (dropT 1 l))
theorem scsF_fuel : ∀ {n m : Nat} {l : List GToken}, l.length ≤ n → l.length ≤ m → scsF n l = scsF m l
  | 0, 0, _, _, _ => rfl
  | 0, m + 1, l, h, _ => by
    unfold scsF
    rw [if_pos (by omega)]
  | n + 1, 0, l, _, h => by
    unfold scsF
    rw [if_pos (by omega)]
  | n + 1, m + 1, l, h1, h2 => by
    unfold scsF
    split
    · rfl
    · have h3 := scpR_len (dropT 1 l)
      rw [dropT_len] at h3
      rw [scsF_fuel (n := n) (m := m) (by omega) (by omega)]
def scsI (l : List GToken) : List GScope := scsF l.length l
theorem scsI_nil {l : List GToken} (h : l.length = 0) : scsI l = [] := by
  unfold scsI
  rw [h]
  rfl
theorem scsI_cons {l : List GToken} (h : ¬ l.length = 0) : scsI l = scpT (dropT 1 l) :: scsI (scpR (dropT 1 l)) := by
  have h3 := scpR_len (dropT 1 l)
  rw [dropT_len] at h3
  obtain ⟨n, hn⟩ : ∃ n, l.length = n + 1 := ⟨l.length - 1, by omega⟩
  unfold scsI
  rw [hn]
  show (if l.length = 0 then [] else _) = _
  rw [if_neg h, scsF_fuel (n := n) (m := (scpR (dropT 1 l)).length) (by omega) (Nat.le_refl _)]
def rdOn (l : List GToken) : Bool := eqS (upT (tkT l).2) (⟨#[83, 69, 84]⟩ : ByteArray)
def rdF (l : List GToken) : GFilter := (rdOn l, if rdOn l = true then scsI (dropT 1 l) else [])
def rdB (l : List GToken) : Bool := neI ((List.length (filTok (rdF l)) : Nat) : Int) 0 && allB foldB (filTok (rdF l)) l
def rdI (l : List GToken) : GFilter := if rdB l = true then rdF l else (false, [])
theorem leB_br {a b : Bool} : leB (.box [.bool a, .row 3 0]) (.box [.bool b, .row 3 0]) = (a = b) := by
  refine propext ⟨fun h => ?_, fun h => ?_⟩
  · have h := leB_eq h
    injection h with h
    injection h with h _
    injection h
  · cases h
    exact Eq.mpr leB_refl trivial
def rdOk (list : List GToken) (o : List GScope) (r : List GToken) : Prop := (if rdOn list = true then o ++ scsI r = scsI (dropT 1 list) else o = []) ∧ o.length + r.length ≤ list.length
section
variable {list : List GToken} {o : List GScope} {r : List GToken}
theorem rd_0 : ∃ q : List GScope × List GToken, rdOk list q.1 q.2 ∧ dropT 1 list = q.2 ∧ eqS (upT (tkT list).2) (⟨#[83, 69, 84]⟩ : ByteArray) = rdOn list ∧ ([] : List GScope) = q.1 := by
  refine ⟨([], dropT 1 list), ⟨?_, ?_⟩, rfl, rfl, rfl⟩
  · split <;> rfl
  · show 0 + (dropT 1 list).length ≤ _
    rw [dropT_len]
    omega
theorem rd_l (hp : list.length ≤ 1048576) (hi : rdOk list o r) : (dropT 1 r).length ≤ 1048576 := by
  have := hi.2
  rw [dropT_len]
  omega
theorem rd_m (hp : list.length ≤ 1048576) (hi : rdOk list o r) {x : GScope} : o.length + [x].length ≤ rowMax := by
  have := hi.2
  rw [List.length_singleton]
  unfold rowMax
  omega
theorem rd_s (hi : rdOk list o r) (ho : rdOn list = true) (hr : (0 : Int) < ((r.length : Nat) : Int)) : ∃ q : List GScope × List GToken, rdOk list q.1 q.2 ∧ q.2.length < r.length ∧ scpR (dropT 1 r) = q.2 ∧ o ++ [scpT (dropT 1 r)] = q.1 := by
  have h1 := scpR_len (dropT 1 r)
  have h2 := hi.2
  have h3 := hi.1
  rw [dropT_len] at h1
  rw [if_pos ho, scsI_cons (by omega)] at h3
  refine ⟨(o ++ [scpT (dropT 1 r)], scpR (dropT 1 r)), ⟨?_, ?_⟩, by show (scpR (dropT 1 r)).length < _; omega, rfl, rfl⟩
  · rw [if_pos ho, ← h3]
    simp only [List.append_assoc, List.cons_append, List.nil_append]
  · show (o ++ [scpT (dropT 1 r)]).length + (scpR (dropT 1 r)).length ≤ _
    rw [List.length_append, List.length_singleton]
    omega
theorem rd_f (hi : rdOk list o r) (hr : rdOn list = true → ¬ (0 : Int) < ((r.length : Nat) : Int)) : (rdOn list, o) = rdF list := by
  have h3 := hi.1
  unfold rdF
  by_cases ho : rdOn list = true
  · have := hr ho
    rw [if_pos ho, scsI_nil (show r.length = 0 by omega), List.append_nil] at h3
    rw [if_pos ho, h3]
  · rw [if_neg ho] at h3
    rw [if_neg ho, h3]
theorem rd_e1 (hi : rdOk list o r) (ho : rdOn list = true) (hr : ¬ (0 : Int) < ((r.length : Nat) : Int)) : (rdOn list, o) = rdF list := rd_f hi (fun _ => hr)
theorem rd_e2 (hi : rdOk list o r) (ho : rdOn list = false) : (rdOn list, o) = rdF list := rd_f hi (fun h => by rw [ho] at h; cases h)
theorem rd_b1 (e : (rdOn list, o) = rdF list) (h : (((filTok (rdOn list, o)).length : Nat) : Int) = 0) : rdB list = false := by
  unfold rdB
  rw [← e, neI_false.2 h]
  rfl
theorem rd_b2 (e : (rdOn list, o) = rdF list) (h : allB foldB (filTok (rdOn list, o)) list = false) : rdB list = false := by
  unfold rdB
  rw [← e, h, Bool.and_false]
theorem rd_b3 (e : (rdOn list, o) = rdF list) (h : ¬ (((filTok (rdOn list, o)).length : Nat) : Int) = 0) (h2 : allB foldB (filTok (rdOn list, o)) list = true) : rdB list = true := by
  unfold rdB
  rw [← e, h2, neI_true.2 h]
  rfl
theorem rd_i (h : rdB list = false) : rdI list = (false, []) := if_neg (by rw [h]; decide)
theorem rd_j (e : (rdOn list, o) = rdF list) (h : rdB list = true) : rdI list = (rdOn list, o) := (if_pos h).trans e.symm
end
def k0mdvue (k : List GToken) : Prop := ((List.length (dropT 1 k) ≤ 1048576 ∧ ((((true = true ∧ leC (.hs .no tyToken (dropT 1 k)) (.hs .no tyToken (dropT 1 k))) ∧ True)) ∧ True)) ∧ true = true)
theorem m_i_taker_scope (k : List GToken) (hpre : List.length k ≤ 1048576) : MCalls Try.prog 37 (argsM 0 [(.b (.list tyToken))] (k, ())) (preM 0 [(.b (.list tyToken))] (k, ())) (postM 0 [(.b (.list tyToken))] ((scpR k), ()) ++ [.row tyStr (scpT k).2.1 0 0 none]) (inpM 0 [(.b (.list tyToken))]) (.ag [.int .i64 (scpT k).1, .row 1 0, .int .i64 (scpT k).2.2]) := by
  refine mcalls_of (T := ⟨[e_i_scopeWords, e_i_taker_scope_1, e_i_hasNames, e_i_eventWords, e_i_bitsOf], [e_slices_IndexFunc_string_string], [], [e_i_taker_take, e_i_taker_group], none, fun _ => [], 1, [], []⟩) (L := L0) Try.func37 rfl rfl rfl (by kernel_rfl) (fun hwf hwm => ?_)
  refine Eq.mpr (β := (T2 (((True ∧ ((((true = true ∧ leC (.hs .no tyToken k) (.hs .no tyToken k)) ∧ True)) ∧ True)) ∧ true = true) ∧ (T3 ((True ∧ true = true) ∧ (True ∧ (((∀ z0 : ByteArray, True ∧ True) ∧ ∀ (_ : ByteArray → Bool) (_ : List ByteArray), true = true) ∧ (T5 ((True ∧ true = true) ∧ (bif (eqI (idxL (fun z0 : ByteArray => eqS (upT z0) (upT (tkT k).2)) scW) 3 || eqI (idxL (fun z0 : ByteArray => eqS (upT z0) (upT (tkT k).2)) scW) 4) then (True ∧ ((k0mdvue k) ∧ (T2 ((True ∧ true = true) ∧ (True ∧ (((List.length (grpR (dropT 1 k)) ≤ 1048576 ∧ ((((true = true ∧ leC (.hs .no tyToken (grpR (dropT 1 k))) (.hs .no tyToken (grpR (dropT 1 k)))) ∧ True)) ∧ True)) ∧ true = true) ∧ ((True ∧ true = true ∧ true = true) ∧ (T6 (((True ∧ ((((true = true ∧ leC (.hs .no tyToken (grpR (grpR (dropT 1 k)))) (.hs .no tyToken (grpR (grpR (dropT 1 k))))) ∧ True)) ∧ True)) ∧ true = true) ∧ (T2 ((((((true = true ∧ leC (.hs .no tyToken (dropT 1 (grpR (grpR (dropT 1 k))))) (.hs .no tyToken (scpR k))) ∧ True)) ∧ True) ∧ (((true = true ∧ leC (.int .i64 (idxL (fun z0 : ByteArray => eqS (upT z0) (upT (tkT k).2)) scW)) (.int .i64 (scpT k).1)) ∧ ((grpT (dropT 1 k)) = (scpT k).2.1) ∧ (true = true ∧ leC (.int .i64 (boI evW (grpT (grpR (dropT 1 k))) 0).1) (.int .i64 (scpT k).2.2)) ∧ True))) ∧ true = true))))))))))) else ((True ∧ true = true) ∧ (True ∧ ((k0mdvue k) ∧ ((True ∧ true = true ∧ true = true) ∧ (T6 (((True ∧ ((((true = true ∧ leC (.hs .no tyToken (grpR (dropT 1 k))) (.hs .no tyToken (grpR (dropT 1 k)))) ∧ True)) ∧ True)) ∧ true = true) ∧ (T2 ((((((true = true ∧ leC (.hs .no tyToken (dropT 1 (grpR (dropT 1 k)))) (.hs .no tyToken (scpR k))) ∧ True)) ∧ True) ∧ (((true = true ∧ leC (.int .i64 (idxL (fun z0 : ByteArray => eqS (upT z0) (upT (tkT k).2)) scW)) (.int .i64 (scpT k).1)) ∧ ((scpT k).2.1 = []) ∧ (true = true ∧ leC (.int .i64 (boI evW (grpT (dropT 1 k)) 0).1) (.int .i64 (scpT k).2.2)) ∧ True))) ∧ true = true)))))))))))))))))) (by kernel_rfl) ?_
  unfold k0mdvue T2 T3 T5 T6
  have hp : List.length k ≤ 1048576 := hpre
  simp only [leB_tok, leC_tok, leC_tokD, SI2A, eq_self]
  repeat' (with_reducible first | exact trivial | apply And.intro | intro _)
  all_goals first
    | (with_reducible trivial)
    | omega
    | (with_reducible assumption)
    | exact (scpR_y (by assumption)).symm
    | exact (scpR_n (by assumption)).symm
    | exact rfl
    | exact (congrArg (fun z : GScope => z.2.1) (scpT_y (by assumption))).symm
    | exact (congrArg (fun z : GScope => z.2.2) (scpT_y (by assumption))).symm
    | exact congrArg (fun z : GScope => z.2.1) (scpT_n (by assumption))
    | exact (congrArg (fun z : GScope => z.2.2) (scpT_n (by assumption))).symm
    | (have h1 := dropT_len 1 k; have h2 := grpR_len (dropT 1 k); omega)
    | (have h1 := dropT_len 1 k; have h2 := grpR_len (dropT 1 k); have h3 := grpT_len (grpR (dropT 1 k)); have h4 := grpT_len (dropT 1 k); omega)
def e_i_taker_scope : MEntry Try.prog := ⟨37, [(.b (.list tyToken))], fun x => List.length x.1 ≤ 1048576, fun x => ((scpR x.1), ()), fun x => .ag [.int .i64 (scpT x.1).1, .row 1 0, .int .i64 (scpT x.1).2.2], fun x => [.row tyStr (scpT x.1).2.1 0 0 none], fun x hx => m_i_taker_scope x.1 hx, Try.call37⟩
theorem b_i_sameFolded_1 (x : GToken) (y : GToken) : BCalls Try.prog 71 [.ag [.int .i64 x.1, .str x.2], .ag [.int .i64 y.1, .str y.2]] (.c (.bool (foldB x y))) [] := by
  refine bc0 [e_i_Upper] [] [] [] L0 Try.func71 (fun hwf => ?_)
  refine Eq.mpr (β := (True ∧ (True ∧ (True ∧ ((true = true ∧ true = true) ∧ (True ∧ (True ∧ (True ∧ (True ∧ (True ∧ (True ∧ (bif (eqI x.1 y.1) then (True ∧ (True ∧ (True ∧ (True ∧ (True ∧ (True ∧ (bif (eqS x.2 y.2) then (True ∧ (True ∧ (True ∧ (rB true (foldB x y))))) else (True ∧ (True ∧ (True ∧ (True ∧ (bif (eqI x.1 1) then (True ∧ (True ∧ (True ∧ (True ∧ ((True ∧ true = true) ∧ ((True ∧ true = true) ∧ (True ∧ (True ∧ (True ∧ (True ∧ (True ∧ (rB (eqS (upT x.2) (upT y.2)) (foldB x y))))))))))))) else (True ∧ (True ∧ (True ∧ (True ∧ (rB false (foldB x y)))))))))))))))))) else (True ∧ (True ∧ (rB false (foldB x y)))))))))))))))) (by kernel_rfl) ?_
  simp only [SIA, eq_self]
  repeat' (first | apply And.intro | intro _)
  all_goals (first | trivial | (rw [Bool.eq_iff_iff]; simp_all [Prod.ext_iff, EQA, foldB]; done) | (simp_all [Prod.ext_iff, EQA, foldB]; done) | omega)
def e_i_sameFolded_1 : Entry Try.prog := ⟨71, [.s tyToken, .s tyToken], fun x => True, fun x => .c (.bool (foldB x.1 x.2.1)), fun _ => [], fun x hx => b_i_sameFolded_1 x.1 x.2.1, Try.call71⟩
theorem b_i_sameFolded (a : List GToken) (b : List GToken) : BCalls Try.prog 38 [.c (.hs .no tyToken a), .c (.hs .no tyToken b)] (.c (.bool (allB foldB a b))) [] := by
  refine bc0 [e_i_sameFolded_1] [] [e_slices_EqualFunc_i_Token_i_Token_i_Token_i_Token] [] L0 Try.func38 (fun hwf => ?_)
  refine Eq.mpr (β := (True ∧ (True ∧ (True ∧ (((∀ z0 w0 : GToken, True ∧ True) ∧ ∀ (_ : GToken → GToken → Bool) (_ _ : List GToken), true = true) ∧ (True ∧ (rB (allB (fun z0 w0 : GToken => foldB z0 w0) a b) (allB foldB a b)))))))) (by kernel_rfl) ?_
  simp only [SI2A, eq_self]
  repeat' (with_reducible first | exact trivial | apply And.intro | intro _)
  all_goals first
    | (with_reducible trivial)
    | omega
    | (with_reducible assumption)
def e_i_sameFolded : Entry Try.prog := ⟨38, [.v (.list tyToken), .v (.list tyToken)], fun x => True, fun x => .c (.bool (allB foldB x.1 x.2.1)), fun _ => [], fun x hx => b_i_sameFolded x.1 x.2.1, Try.call38⟩
def L_i_ReadFilter (list : List GToken) : Nat → List AV → Mem → LoopA
  | 3, tm, M => ⟨(List GScope) × (List GToken), fun y => (anyR (setA tm []) 16 19, setM M [(1, .box [.hs .no tyToken y.2]), (2, .box [.bool (rdOn list), .row 3 0]), (3, .row tyScope y.1 0 0 none)]), fun y => (rdOk list y.1 y.2), fun y => (List.length y.2)⟩
  | _, _, _ => ⟨Unit, fun _ => ([], []), fun _ => False, fun _ => 0⟩
def k0tnfdk (y0 : (List GScope) × (List GToken)) (list : List GToken) : Prop := (True ∧ ((True ∧ List.length y0.1 + List.length ([(scpT (dropT 1 y0.2))]) ≤ rowMax) ∧ (T2 (∃ y0' : (List GScope) × (List GToken), (rdOk list y0'.1 y0'.2) ∧ (List.length y0'.2) < (List.length y0.2) ∧ ((lxs [.c (.hs .no tyToken list), .tp [], .c (.bp 0 0), .c (.bool false), .c (.bp 1 0), .c (.bp 2 0), .tp [], .c (.hs .no tyToken list), .ag [.hs .no tyToken list], .c (.bp 1 0), .c (.bp 1 0), .ag [.int .i64 (tkT list).1, .str (tkT list).2], .c (.str (tkT list).2), .c (.str (upT (tkT list).2)), .c (.bool (eqS (upT (tkT list).2) (⟨#[83, 69, 84]⟩ : ByteArray))), .ag [.bool (eqS (upT (tkT list).2) (⟨#[83, 69, 84]⟩ : ByteArray)), .raw (.slice none 0 0)]] (TN 19 (lxs [.tp [], .tp [], .tp [], .tp [], .tp [], .tp [], .tp [], .tp [], .tp [], .tp [], .tp [], .tp [], .tp []] True))) ∧ (lb (.box [.bool false, .raw (.slice none 0 0)]) ∧ leB (.box [.hs .no tyToken (scpR (dropT 1 y0.2))]) (.box [.hs .no tyToken y0'.2]) ∧ lb (.box [.bool (rdOn list), .row 3 0]) ∧ leB (.row tyScope (y0.1 ++ [(scpT (dropT 1 y0.2))]) 0 0 none) (.row tyScope y0'.1 0 0 none) ∧ True) ∧ true = true)))))
def k3tnfdk (list : List GToken) : Prop := (T3 ((((((true = true ∧ leC (.bool false) (.bool (rdI list).1)) ∧ ((rdI list).2 = []) ∧ True)) ∧ (true = true ∧ leC (.bool false) (.bool (rdB list))) ∧ True)) ∧ true = true))
def k1tnfdk (list : List GToken) (y0 : (List GScope) × (List GToken)) : Prop := (True ∧ ((True ∧ true = true ∧ true = true) ∧ (T5 (bif (eqI ((List.length (filTok ((rdOn list), y0.1)) : Nat) : Int) 0) then (True ∧ (k3tnfdk list)) else (T2 ((True ∧ true = true ∧ true = true) ∧ (T2 (bif (!(allB foldB (filTok ((rdOn list), y0.1)) list)) then (k3tnfdk list) else (T3 ((((((true = true ∧ leC (.bool (rdOn list)) (.bool (rdI list).1)) ∧ (y0.1 = (rdI list).2) ∧ True)) ∧ (true = true ∧ leC (.bool true) (.bool (rdB list))) ∧ True)) ∧ true = true))))))))))
def k2tnfdk (y0 : (List GScope) × (List GToken)) : Prop := ((List.length (dropT 1 y0.2) ≤ 1048576 ∧ ((((true = true ∧ leC (.hs .no tyToken (dropT 1 y0.2)) (.hs .no tyToken (dropT 1 y0.2))) ∧ True)) ∧ True)) ∧ true = true)
theorem b_i_ReadFilter (list : List GToken) (hpre : List.length list ≤ 1048576) : BCalls Try.prog 12 [.c (.hs .no tyToken list)] (.tp [.ag [.bool (rdI list).1, .row 0 0], .c (.bool (rdB list))]) [.row tyScope (rdI list).2 0 0 none] := by
  refine bcalls_of (T := ⟨[e_i_Upper, e_i_FilterTokens, e_i_sameFolded], [], [], [e_i_taker_take, e_i_taker_scope], none, fun i => match i with | 3 => [⟨some 2, 1, tyScope⟩] | _ => [], 0, [], []⟩) (L := (L_i_ReadFilter list)) Try.func12 ⟨⟨rfl, rfl⟩, rfl⟩ (fun hwf => ?_)
  refine Eq.mpr (β := (T7 (((True ∧ ((((true = true ∧ leC (.hs .no tyToken list) (.hs .no tyToken list)) ∧ True)) ∧ True)) ∧ true = true) ∧ (True ∧ ((True ∧ true = true) ∧ (T4 ((∃ q : (List GScope) × (List GToken), (rdOk list q.1 q.2) ∧ ((lxs [.c (.hs .no tyToken list), .tp [], .c (.bp 0 0), .c (.bool false), .c (.bp 1 0), .c (.bp 2 0), .tp [], .c (.hs .no tyToken list), .ag [.hs .no tyToken list], .c (.bp 1 0), .c (.bp 1 0), .ag [.int .i64 (tkT list).1, .str (tkT list).2], .c (.str (tkT list).2), .c (.str (upT (tkT list).2)), .c (.bool (eqS (upT (tkT list).2) (⟨#[83, 69, 84]⟩ : ByteArray))), .ag [.bool (eqS (upT (tkT list).2) (⟨#[83, 69, 84]⟩ : ByteArray)), .raw (.slice none 0 0)]] (TN 19 (lxs [.tp [], .tp [], .tp [], .tp [], .tp [], .tp [], .tp [], .tp [], .tp [], .tp [], .tp [], .tp [], .tp []] True))) ∧ (lb (.box [.bool false, .raw (.slice none 0 0)]) ∧ leB (.box [.hs .no tyToken (dropT 1 list)]) (.box [.hs .no tyToken q.2]) ∧ leB (.box [.bool (eqS (upT (tkT list).2) (⟨#[83, 69, 84]⟩ : ByteArray)), .row 3 0]) (.box [.bool (rdOn list), .row 3 0]) ∧ leB (.row tyScope ([] : List GScope) 0 0 none) (.row tyScope q.1 0 0 none) ∧ True) ∧ true = true)) ∧ ∀ y0 : (List GScope) × (List GToken), (rdOk list y0.1 y0.2) → (T3 (bif (rdOn list) then (T7 (bif (gtI ((List.length y0.2 : Nat) : Int) 0) then (True ∧ (((True ∧ ((((true = true ∧ leC (.hs .no tyToken y0.2) (.hs .no tyToken y0.2)) ∧ True)) ∧ True)) ∧ true = true) ∧ ((true = true ∧ true = true) ∧ (True ∧ ((True ∧ ((True ∧ ((k2tnfdk y0) ∧ (k0tnfdk y0 list))) ∧ (((k2tnfdk y0) ∧ ((True ∧ (k0tnfdk y0 list)) ∧ ((True ∧ (k0tnfdk y0 list)))))))) ∧ (((k2tnfdk y0) ∧ ((True ∧ ((True ∧ (k0tnfdk y0 list)) ∧ ((True ∧ (k0tnfdk y0 list))))) ∧ ((T2 (k0tnfdk y0 list))))))))))) else (k1tnfdk list y0))) else (True ∧ (k1tnfdk list y0))))))))))) (by kernel_rfl) ?_
  unfold k2tnfdk k1tnfdk k3tnfdk k0tnfdk T2 T3 T4 T5 T7
  have hp : List.length list ≤ 1048576 := hpre
  simp only [leB_br, leB_tok, leC_tok, leC_tokD, SI2A, eq_self]
  repeat' (with_reducible first | exact trivial | apply And.intro | intro _)
  all_goals first
    | (with_reducible trivial)
    | omega
    | (with_reducible assumption)
    | exact rd_0
    | exact rd_l hp (by with_reducible assumption)
    | exact rd_m hp (by with_reducible assumption)
    | exact rd_s (by with_reducible assumption) (by with_reducible assumption) (by with_reducible assumption)
    | exact (rd_b1 (rd_e1 (by with_reducible assumption) (by with_reducible assumption) (by with_reducible assumption)) (by with_reducible assumption)).symm
    | exact (congrArg Prod.fst (rd_i (rd_b1 (rd_e1 (by with_reducible assumption) (by with_reducible assumption) (by with_reducible assumption)) (by with_reducible assumption)))).symm
    | exact congrArg Prod.snd (rd_i (rd_b1 (rd_e1 (by with_reducible assumption) (by with_reducible assumption) (by with_reducible assumption)) (by with_reducible assumption)))
    | exact (rd_b2 (rd_e1 (by with_reducible assumption) (by with_reducible assumption) (by with_reducible assumption)) (by with_reducible assumption)).symm
    | exact (congrArg Prod.fst (rd_i (rd_b2 (rd_e1 (by with_reducible assumption) (by with_reducible assumption) (by with_reducible assumption)) (by with_reducible assumption)))).symm
    | exact congrArg Prod.snd (rd_i (rd_b2 (rd_e1 (by with_reducible assumption) (by with_reducible assumption) (by with_reducible assumption)) (by with_reducible assumption)))
    | exact (rd_b1 (rd_e2 (by with_reducible assumption) (by with_reducible assumption)) (by with_reducible assumption)).symm
    | exact (congrArg Prod.fst (rd_i (rd_b1 (rd_e2 (by with_reducible assumption) (by with_reducible assumption)) (by with_reducible assumption)))).symm
    | exact congrArg Prod.snd (rd_i (rd_b1 (rd_e2 (by with_reducible assumption) (by with_reducible assumption)) (by with_reducible assumption)))
    | exact (rd_b2 (rd_e2 (by with_reducible assumption) (by with_reducible assumption)) (by with_reducible assumption)).symm
    | exact (congrArg Prod.fst (rd_i (rd_b2 (rd_e2 (by with_reducible assumption) (by with_reducible assumption)) (by with_reducible assumption)))).symm
    | exact congrArg Prod.snd (rd_i (rd_b2 (rd_e2 (by with_reducible assumption) (by with_reducible assumption)) (by with_reducible assumption)))
    | exact (rd_b3 (rd_e1 (by with_reducible assumption) (by with_reducible assumption) (by with_reducible assumption)) (by with_reducible assumption) (by with_reducible assumption)).symm
    | exact (congrArg Prod.fst (rd_j (rd_e1 (by with_reducible assumption) (by with_reducible assumption) (by with_reducible assumption)) (rd_b3 (rd_e1 (by with_reducible assumption) (by with_reducible assumption) (by with_reducible assumption)) (by with_reducible assumption) (by with_reducible assumption)))).symm
    | exact (congrArg Prod.snd (rd_j (rd_e1 (by with_reducible assumption) (by with_reducible assumption) (by with_reducible assumption)) (rd_b3 (rd_e1 (by with_reducible assumption) (by with_reducible assumption) (by with_reducible assumption)) (by with_reducible assumption) (by with_reducible assumption)))).symm
    | exact (rd_b3 (rd_e2 (by with_reducible assumption) (by with_reducible assumption)) (by with_reducible assumption) (by with_reducible assumption)).symm
    | exact (congrArg Prod.fst (rd_j (rd_e2 (by with_reducible assumption) (by with_reducible assumption)) (rd_b3 (rd_e2 (by with_reducible assumption) (by with_reducible assumption)) (by with_reducible assumption) (by with_reducible assumption)))).symm
    | exact (congrArg Prod.snd (rd_j (rd_e2 (by with_reducible assumption) (by with_reducible assumption)) (rd_b3 (rd_e2 (by with_reducible assumption) (by with_reducible assumption)) (by with_reducible assumption) (by with_reducible assumption)))).symm
def e_i_ReadFilter : Entry Try.prog := ⟨12, [.v (.list tyToken)], fun x => List.length x.1 ≤ 1048576, fun x => .tp [.ag [.bool (rdI x.1).1, .row 0 0], .c (.bool (rdB x.1))], fun x => [.row tyScope (rdI x.1).2 0 0 none], fun x hx => b_i_ReadFilter x.1 hx, Try.call12⟩
end Go.Proofs.Ytoigkpkafgjeaaa
