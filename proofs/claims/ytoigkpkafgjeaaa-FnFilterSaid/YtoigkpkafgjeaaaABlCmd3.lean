/-
  Tokens of a filter.
  No condition but what the arguments' cells hold. Printed by vcgen.py.
-/
import Derived.Test.YtoigkpkafgjeaaaABlCmd1
import Derived.Test.YtoigkpkafgjeaaaABmRw
set_option linter.unusedSimpArgs false
set_option linter.unusedVariables false
set_option maxRecDepth 100000
set_option maxHeartbeats 4000000
namespace Go.Proofs.Ytoigkpkafgjeaaa
open Go.ChangeShapes Go.WideShapes Go.ChangeAt Go.RowKit Go.Joins Go.Deep
open GoRep (rep bulk)

def scW : List ByteArray := [(⟨#[]⟩ : ByteArray), (⟨#[115, 101, 108, 101, 99, 116, 101, 100]⟩ : ByteArray), (⟨#[112, 101, 114, 115, 111, 110, 97, 108]⟩ : ByteArray), (⟨#[115, 117, 98, 116, 114, 101, 101]⟩ : ByteArray), (⟨#[98, 111, 120, 101, 115]⟩ : ByteArray)]
def evW : List ByteArray := [(⟨#[110, 101, 119]⟩ : ByteArray), (⟨#[103, 111, 110, 101]⟩ : ByteArray), (⟨#[102, 108, 97, 103, 115]⟩ : ByteArray), (⟨#[110, 97, 109, 101, 115]⟩ : ByteArray)]
def atomsN (ws : List ByteArray) : Nat → List GToken
  | 0 => []
  | k + 1 => atomsN ws k ++ [atomK (nth_String ws k)]
theorem atoms_len (ws : List ByteArray) : ∀ k, (atomsN ws k).length = k
  | 0 => rfl
  | k + 1 => by unfold atomsN; rw [List.length_append, atoms_len ws k]; rfl
def evN (b : Int) : Nat → List GToken
  | 0 => []
  | k + 1 => if bitB b k = true then evN b k ++ [atomK (nth_String evW k)] else evN b k
theorem ev_y {b : Int} {k : Nat} (h : bitB b k = true) : evN b (k + 1) = evN b k ++ [atomK (nth_String evW k)] := if_pos h
theorem ev_n {b : Int} {k : Nat} (h : bitB b k = false) : evN b (k + 1) = evN b k := if_neg (by rw [h]; decide)
theorem ev_len (b : Int) : ∀ k, (evN b k).length ≤ k
  | 0 => Nat.le_refl _
  | k + 1 => by
    have := ev_len b k
    unfold evN
    split
    · rw [List.length_append, List.length_singleton]; omega
    · omega
def nmTok (z : GScope) : List GToken := if 3 ≤ z.1 then [openK] ++ atomsN z.2.1 z.2.1.length ++ [closeK] else []
def scTok (z : GScope) : List GToken := [openK, atomK (nth_String scW (Int.toNat z.1))] ++ nmTok z ++ [openK] ++ evN z.2.2 4 ++ [closeK, closeK]
def scsN (l : List GScope) : Nat → List GToken
  | 0 => [atomK (⟨#[115, 101, 116]⟩ : ByteArray)]
  | k + 1 => scsN l k ++ scTok (nth_Scope l k)
def filTok (f : GFilter) : List GToken := if filterOk f = false then [] else if f.1 = false then [atomK (⟨#[110, 111, 110, 101]⟩ : ByteArray)] else scsN f.2 f.2.length
theorem filter_at {f : GFilter} (h : filterOk f = true) (h1 : f.1 = true) : f.2.length ≤ 3 ∧ ∀ k, k < f.2.length → scopeOk (nth_Scope f.2 k) = true := by
  unfold filterOk at h
  rw [if_pos h1, Bool.and_eq_true, btw_iff] at h
  refine ⟨by omega, fun k hk => ?_⟩
  have h2 : List.any f.2 (fun z0 : GScope => !scopeOk z0) = false := by simpa using h.2
  have h3 := List.any_eq_false.1 h2 (nth_Scope f.2 k) (List.mem_of_getElem? (nth_getElem? (t := tyScope) hk))
  simpa using h3
theorem scope_facts {z : GScope} (h : scopeOk z = true) : (1 ≤ z.1 ∧ z.1 ≤ 4) ∧ (3 ≤ z.1 → z.2.1.length ≤ 3) := by
  unfold scopeOk at h
  simp only [Bool.and_eq_true, btw_iff] at h
  refine ⟨h.1, fun h3 => ?_⟩
  have := h.2.2
  rw [if_neg (by omega), Bool.and_eq_true, btw_iff] at this
  omega
theorem nmTok_len {z : GScope} (h : scopeOk z = true) : (nmTok z).length ≤ 5 := by
  unfold nmTok
  split
  · rename_i h3
    have := (scope_facts h).2 h3
    simp only [List.length_append, List.length_singleton, atoms_len]
    omega
  · exact Nat.zero_le _
theorem scTok_len {z : GScope} (h : scopeOk z = true) : (scTok z).length ≤ 14 := by
  have h1 := nmTok_len h
  have h2 := ev_len z.2.2 4
  unfold scTok
  simp only [List.length_append, List.length_cons, List.length_nil]
  omega
theorem scs_len {f : GFilter} (h : filterOk f = true) (h1 : f.1 = true) : ∀ k, k ≤ f.2.length → (scsN f.2 k).length ≤ 1 + 14 * k
  | 0, _ => Nat.le_refl _
  | k + 1, hk => by
    have h2 := scs_len h h1 k (by omega)
    have h3 := scTok_len ((filter_at h h1).2 k (by omega))
    unfold scsN
    rw [List.length_append]
    omega
theorem filTok_len (f : GFilter) : (filTok f).length ≤ 50 := by
  unfold filTok
  split
  · exact Nat.zero_le _
  · rename_i h
    split
    · exact (show 1 ≤ 50 by decide)
    · rename_i h1
      have h2 := eq_true_of_ne_false h
      have h3 := eq_true_of_ne_false h1
      have h4 := scs_len h2 h3 _ (Nat.le_refl _)
      have h5 := (filter_at h2 h3).1
      omega
theorem bitU_y {b : Int} {k : Nat} (hk : k ≤ 1048576) (h : IntKind.wrap .i64 (((BitVec.ofInt (IntKind.bits .i64) (shrI .i64 b (IntKind.wrap .u64 ((k : Nat) : Int))) &&& BitVec.ofInt (IntKind.bits .i64) 1).toNat : Nat)) = 1) : bitB b k = true := by
  rw [wu64 hk] at h
  exact eqI_true.2 h
theorem bitU_n {b : Int} {k : Nat} (hk : k ≤ 1048576) (h : ¬ IntKind.wrap .i64 (((BitVec.ofInt (IntKind.bits .i64) (shrI .i64 b (IntKind.wrap .u64 ((k : Nat) : Int))) &&& BitVec.ofInt (IntKind.bits .i64) 1).toNat : Nat)) = 1) : bitB b k = false := by
  rw [wu64 hk] at h
  exact eqI_false.2 h
theorem nm_join {X : List GToken} {z : GScope} {k : Nat} (h : 3 ≤ z.1) (hk : k ≤ z.2.1.length) (hk2 : ¬ ((k : Nat) : Int) < ((z.2.1.length : Nat) : Int)) : X ++ [openK] ++ atomsN z.2.1 k ++ [closeK] = X ++ nmTok z := by
  obtain rfl : k = z.2.1.length := by omega
  unfold nmTok
  rw [if_pos h]
  simp only [List.append_assoc]
theorem nm_none {X : List GToken} {z : GScope} (h : ¬ 3 ≤ z.1) : X = X ++ nmTok z := by
  unfold nmTok
  rw [if_neg h, List.append_nil]
theorem sc_end {l : List GScope} {y k : Nat} (hk : k ≤ 4) (hk2 : ¬ ((k : Nat) : Int) < 4) : scsN l y ++ [openK, atomK (nth_String scW (Int.toNat (nth_Scope l y).1))] ++ nmTok (nth_Scope l y) ++ [openK] ++ evN (nth_Scope l y).2.2 k ++ [closeK, closeK] = scsN l (y + 1) := by
  obtain rfl : k = 4 := by omega
  show _ = scsN l y ++ scTok (nth_Scope l y)
  unfold scTok
  simp only [List.append_assoc]
theorem fil_off {f : GFilter} (h : filterOk f = true) (h1 : f.1 = false) : [atomK (⟨#[110, 111, 110, 101]⟩ : ByteArray)] = filTok f := by
  unfold filTok
  rw [if_neg (by rw [h]; decide), if_pos h1]
theorem fil_on {f : GFilter} {y : Nat} (h : filterOk f = true) (h1 : f.1 = true) (hk : y ≤ f.2.length) (hk2 : ¬ ((y : Nat) : Int) < ((f.2.length : Nat) : Int)) : scsN f.2 y = filTok f := by
  obtain rfl : y = f.2.length := by omega
  unfold filTok
  rw [if_neg (by rw [h]; decide), if_neg (by rw [h1]; decide)]
theorem b_s_l6Words  : BCalls Try.prog 44 [] (.c (.row 0 0)) [.row tyStr scW 0 0 none] := by
  refine bc0 [] [] [] [] L0 Try.func44 (fun hwf => ?_)
  refine Eq.mpr (β := (True ∧ (True ∧ (True ∧ ((([(⟨#[]⟩ : ByteArray), (⟨#[115, 101, 108, 101, 99, 116, 101, 100]⟩ : ByteArray), (⟨#[112, 101, 114, 115, 111, 110, 97, 108]⟩ : ByteArray), (⟨#[115, 117, 98, 116, 114, 101, 101]⟩ : ByteArray), (⟨#[98, 111, 120, 101, 115]⟩ : ByteArray)]) = scW) ∧ true = true))))) (by kernel_rfl) ?_
  simp only [btw_iff, btw_not, flagsOk, Bool.not_true, Bool.not_false, SI2A, eq_self]
  repeat' (with_reducible first | exact trivial | apply And.intro | intro _)
  all_goals rfl
def e_s_l6Words : Entry Try.prog := ⟨44, [], fun x => True, fun x => .c (.row 0 0), fun x => [.row tyStr scW 0 0 none], fun x hx => b_s_l6Words , Try.call44⟩
theorem b_s_l6Events  : BCalls Try.prog 52 [] (.c (.row 0 0)) [.row tyStr evW 0 0 none] := by
  refine bc0 [] [] [] [] L0 Try.func52 (fun hwf => ?_)
  refine Eq.mpr (β := (True ∧ (True ∧ (True ∧ ((([(⟨#[110, 101, 119]⟩ : ByteArray), (⟨#[103, 111, 110, 101]⟩ : ByteArray), (⟨#[102, 108, 97, 103, 115]⟩ : ByteArray), (⟨#[110, 97, 109, 101, 115]⟩ : ByteArray)]) = evW) ∧ true = true))))) (by kernel_rfl) ?_
  simp only [btw_iff, btw_not, flagsOk, Bool.not_true, Bool.not_false, SI2A, eq_self]
  repeat' (with_reducible first | exact trivial | apply And.intro | intro _)
  all_goals rfl
def e_s_l6Events : Entry Try.prog := ⟨52, [], fun x => True, fun x => .c (.row 0 0), fun x => [.row tyStr evW 0 0 none], fun x hx => b_s_l6Events , Try.call52⟩
def L_s_FilterTokens (f : GFilter) : Nat → List AV → Mem → LoopA
  | 8, tm, M => ⟨Nat, fun y => (anyR (anyR (setA tm [(3, .c (.row 1 0)), (4, .c (.int .i64 ((y : Nat) : Int)))]) 5 3) 23 78, setM M [(1, .row tyToken (scsN f.2 y) 0 0 none)]), fun y => (y ≤ List.length f.2), fun y => (List.length f.2 - y)⟩
  | 1000013, tm, M => ⟨Unit, fun _ => (anyR (setA tm [(3, .c (.row 1 0)), (6, .any), (45, .any)]) 48 25, setM M [(1, .row tyToken ((@id (List GToken) (rwL tyToken M 1)) ++ nmTok (nth_Scope f.2 (Int.toNat (tmI tm 4)))) 0 0 none)]), fun _ => True, fun _ => 0⟩
  | 15, tm, M => ⟨Nat, fun y => (anyR (setA tm [(3, .c (.row 1 0)), (6, .c (.int .i64 ((y : Nat) : Int)))]) 52 17, setM M [(1, .row tyToken ((@id (List GToken) (rwL tyToken M 1)) ++ atomsN (nth_Scope f.2 (Int.toNat (tmI tm 4))).2.1 y) 0 0 none)]), fun y => (y ≤ List.length (nth_Scope f.2 (Int.toNat (tmI tm 4))).2.1), fun y => (List.length (nth_Scope f.2 (Int.toNat (tmI tm 4))).2.1 - y)⟩
  | 21, tm, M => ⟨Nat, fun y => (anyR (setA tm [(3, .c (.row 1 0)), (7, .c (.int .i64 ((y : Nat) : Int)))]) 76 20, setM M [(1, .row tyToken ((@id (List GToken) (rwL tyToken M 1)) ++ evN (nth_Scope f.2 (Int.toNat (tmI tm 4))).2.2 y) 0 0 none)]), fun y => (y ≤ 4), fun y => (4 - y)⟩
  | _, _, _ => ⟨Unit, fun _ => ([], []), fun _ => False, fun _ => 0⟩
def k11q2q2 (f : GFilter) (y0 : Nat) : List AC := [.int .i64 (nth_Scope f.2 (Int.toNat ((y0 : Nat) : Int))).1, .hs .no tyStr (nth_Scope f.2 (Int.toNat ((y0 : Nat) : Int))).2.1, .int .i64 (nth_Scope f.2 (Int.toNat ((y0 : Nat) : Int))).2.2]
def k51q2q2 (f : GFilter) (y0 : Nat) : List AC := [.int .i64 (atomK (nth_String scW (Int.toNat (nth_Scope f.2 (Int.toNat ((y0 : Nat) : Int))).1))).1, .str (atomK (nth_String scW (Int.toNat (nth_Scope f.2 (Int.toNat ((y0 : Nat) : Int))).1))).2]
def k01q2q2 (y0 : Nat) (f : GFilter) : Prop := (True ∧ lxs [.c (.int .i64 ((y0 : Nat) : Int)), .c (.bp 0 1), .c (.hs .no tyScope f.2), .c (.int .i64 ((List.length f.2 : Nat) : Int)), .c (.bool true)] (True ∧ True ∧ lxs [.c (.bp 0 1), .c (.hs .no tyScope f.2), .c (.int .i64 ((y0 : Nat) : Int)), .c (.ep .no tyScope f.2 (Int.toNat ((y0 : Nat) : Int)) 0), .ag (k11q2q2 f y0), .c (.junk), .ag [.int .i64 (openK ).1, .str (openK ).2], .c (.row 4 0), .c (.bp 3 0), .c (.int .i64 (nth_Scope f.2 (Int.toNat ((y0 : Nat) : Int))).1), .c (.rp 4 0 1 (Int.toNat (nth_Scope f.2 (Int.toNat ((y0 : Nat) : Int))).1) 0), .c (.str (nth_String scW (Int.toNat (nth_Scope f.2 (Int.toNat ((y0 : Nat) : Int))).1))), .ag (k51q2q2 f y0), .c (.row 5 0)] (True ∧ lxs [.c (.bp 3 0), .c (.int .i64 (nth_Scope f.2 (Int.toNat ((y0 : Nat) : Int))).1)] (TN 25 (lxs [.c (.junk), .ag [.int .i64 (openK ).1, .str (openK ).2], .c (.row 6 0)] (TN 25 (lxs [.tp []] True)))))))
def k41q2q2 : List AC := [.int .i64 (atomK (⟨#[115, 101, 116]⟩ : ByteArray)).1, .str (atomK (⟨#[115, 101, 116]⟩ : ByteArray)).2]
def k21q2q2 (f : GFilter) (y0 : Nat) : Prop := (True ∧ True ∧ lxs [.c (.junk), .ag [.bool f.1, .hs .no tyScope f.2], .c (.bool (filterOk f)), .c (.bool false), .tp [], .c (.bp 0 0), .c (.bool f.1), .c (.bool false), .tp [], .tp [], .tp [], .tp [], .c (.junk), .ag k41q2q2, .c (.row 2 0)] (True ∧ lxs [.c (.int .i64 ((y0 : Nat) : Int)), .c (.bp 0 1), .c (.hs .no tyScope f.2), .c (.int .i64 ((List.length f.2 : Nat) : Int)), .c (.bool true)] (True ∧ True ∧ lxs [.c (.bp 0 1), .c (.hs .no tyScope f.2), .c (.int .i64 ((y0 : Nat) : Int)), .c (.ep .no tyScope f.2 (Int.toNat ((y0 : Nat) : Int)) 0), .ag (k11q2q2 f y0), .c (.junk), .ag [.int .i64 (openK ).1, .str (openK ).2], .c (.row 4 0), .c (.bp 3 0), .c (.int .i64 (nth_Scope f.2 (Int.toNat ((y0 : Nat) : Int))).1), .c (.rp 4 0 1 (Int.toNat (nth_Scope f.2 (Int.toNat ((y0 : Nat) : Int))).1) 0), .c (.str (nth_String scW (Int.toNat (nth_Scope f.2 (Int.toNat ((y0 : Nat) : Int))).1))), .ag (k51q2q2 f y0), .c (.row 5 0)] (True ∧ lxs [.c (.bp 3 0), .c (.int .i64 (nth_Scope f.2 (Int.toNat ((y0 : Nat) : Int))).1)] (TN 53 (lxs [.tp []] True))))))
def k31q2q2 (y0 : Nat) (f : GFilter) : Prop := (True ∧ lxs [.c (.int .i64 ((y0 : Nat) : Int)), .c (.bp 0 1), .c (.hs .no tyScope f.2), .c (.int .i64 ((List.length f.2 : Nat) : Int)), .c (.bool true)] (True ∧ True ∧ lxs [.c (.bp 0 1), .c (.hs .no tyScope f.2), .c (.int .i64 ((y0 : Nat) : Int)), .c (.ep .no tyScope f.2 (Int.toNat ((y0 : Nat) : Int)) 0), .ag (k11q2q2 f y0), .c (.junk), .ag [.int .i64 (openK ).1, .str (openK ).2], .c (.row 4 0), .c (.bp 3 0), .c (.int .i64 (nth_Scope f.2 (Int.toNat ((y0 : Nat) : Int))).1), .c (.rp 4 0 1 (Int.toNat (nth_Scope f.2 (Int.toNat ((y0 : Nat) : Int))).1) 0), .c (.str (nth_String scW (Int.toNat (nth_Scope f.2 (Int.toNat ((y0 : Nat) : Int))).1))), .ag (k51q2q2 f y0), .c (.row 5 0), .c (.junk), .c (.bp 3 0), .c (.int .i64 (nth_Scope f.2 (Int.toNat ((y0 : Nat) : Int))).1), .c (.bool true), .c (.junk), .ag [.int .i64 (openK ).1, .str (openK ).2], .c (.row 6 0)] (TN 49 (lxs [.tp []] True))))
def k61q2q2 (y1 : Nat) (y1' : Nat) (f : GFilter) (y0 : Nat) : Prop := (True ∧ leV (.c (.int .i64 (IntKind.wrap .i64 (((y1 : Nat) : Int) + 1)))) (.c (.int .i64 ((y1' : Nat) : Int))) ∧ lxs [.c (.junk), .ag [.bool f.1, .hs .no tyScope f.2], .c (.bool (filterOk f)), .c (.bool false), .tp [], .c (.bp 0 0), .c (.bool f.1), .c (.bool false), .tp [], .tp [], .tp [], .tp [], .c (.junk), .ag k41q2q2, .c (.row 2 0)] (k01q2q2 y0 f))
theorem b_s_FilterTokens (f : GFilter) : BCalls Try.prog 17 [.ag [.bool f.1, .hs .no tyScope f.2]] (.c (.row 0 0)) [.row tyToken (filTok f) 0 0 none] := by
  refine bcalls_of (T := ⟨[e_s_FilterOk, e_s_l6Atom, e_s_l6Open, e_s_l6Words, e_s_l6Close, e_s_l6Events], [], [], [], none, fun i => match i with | 1000013 => [⟨some 0, 0, tyBool⟩] | _ => [], 0, [], []⟩) (L := (L_s_FilterTokens f)) Try.func17 ⟨⟨rfl, rfl⟩, rfl⟩ (fun hwf => ?_)
  refine Eq.mpr (β := (T5 ((True ∧ true = true) ∧ (True ∧ (bif (!(filterOk f)) then (T2 ((([] : List GToken) = (filTok f)) ∧ true = true)) else (T3 (bif (!f.1) then (True ∧ ((True ∧ true = true) ∧ (True ∧ ((True ∧ List.length ([] : List GToken) + List.length ([(atomK (⟨#[110, 111, 110, 101]⟩ : ByteArray))]) ≤ rowMax) ∧ (True ∧ (((([] : List GToken) ++ [(atomK (⟨#[110, 111, 110, 101]⟩ : ByteArray))]) = (filTok f)) ∧ true = true)))))) else (True ∧ ((True ∧ true = true) ∧ (True ∧ ((True ∧ List.length ([] : List GToken) + List.length ([(atomK (⟨#[115, 101, 116]⟩ : ByteArray))]) ≤ rowMax) ∧ (T2 ((∃ q : Nat, (q ≤ List.length f.2) ∧ ((lxs [.ag [.bool f.1, .hs .no tyScope f.2], .c (.bp 0 0), .c (.raw (.slice none 0 0)), .c (.row 1 0)] (leV (.c (.int .i64 0)) (.c (.int .i64 ((q : Nat) : Int))) ∧ TN 3 (lxs [.c (.junk), .ag [.bool f.1, .hs .no tyScope f.2], .c (.bool (filterOk f)), .c (.bool false), .tp [], .c (.bp 0 0), .c (.bool f.1), .c (.bool false), .tp [], .tp [], .tp [], .tp [], .c (.junk), .ag k41q2q2, .c (.row 2 0)] (TN 78 (lxs [.tp []] True))))) ∧ (lb (.box [.bool f.1, .hs .no tyScope f.2]) ∧ leB (.row tyToken (([] : List GToken) ++ [(atomK (⟨#[115, 101, 116]⟩ : ByteArray))]) 0 0 none) (.row tyToken (scsN f.2 q) 0 0 none) ∧ lb (.row tyToken ([(atomK (⟨#[115, 101, 116]⟩ : ByteArray))]) 0 0 none) ∧ True) ∧ true = true)) ∧ ∀ y0 : Nat, (y0 ≤ List.length f.2) → (T5 (bif (ltI ((y0 : Nat) : Int) ((List.length f.2 : Nat) : Int)) then (T3 (((3 : Nat) = 3 ∧ (0 : Int) ≤ ((y0 : Nat) : Int) ∧ (((y0 : Nat) : Int) : Int) < ((List.length f.2 : Nat) : Int)) ∧ (T3 ((true = true ∧ true = true) ∧ (T3 ((True ∧ true = true) ∧ ((True ∧ true = true) ∧ (((1 : Nat) = 1 ∧ (0 : Int) ≤ (nth_Scope f.2 (Int.toNat ((y0 : Nat) : Int))).1 ∧ ((nth_Scope f.2 (Int.toNat ((y0 : Nat) : Int))).1 : Int) < ((List.length scW : Nat) : Int)) ∧ (True ∧ ((True ∧ true = true) ∧ (True ∧ ((True ∧ List.length (scsN f.2 y0) + List.length ([(openK ), (atomK (nth_String scW (Int.toNat (nth_Scope f.2 (Int.toNat ((y0 : Nat) : Int))).1)))]) ≤ rowMax) ∧ (T4 ((bif (geI (nth_Scope f.2 (Int.toNat ((y0 : Nat) : Int))).1 3) then (True ∧ ((True ∧ true = true) ∧ (True ∧ ((True ∧ List.length ((scsN f.2 y0) ++ [(openK ), (atomK (nth_String scW (Int.toNat (nth_Scope f.2 (Int.toNat ((y0 : Nat) : Int))).1)))]) + List.length ([(openK )]) ≤ rowMax) ∧ (T2 ((∃ q : Nat, (q ≤ List.length (nth_Scope f.2 (Int.toNat ((y0 : Nat) : Int))).2.1) ∧ ((lxs [.ag [.bool f.1, .hs .no tyScope f.2], .c (.bp 0 0), .c (.raw (.slice none 0 0)), .c (.row 1 0), .c (.int .i64 ((y0 : Nat) : Int)), .c (.bp 3 0)] (leV (.c (.int .i64 0)) (.c (.int .i64 ((q : Nat) : Int))) ∧ True ∧ lxs [.c (.junk), .ag [.bool f.1, .hs .no tyScope f.2], .c (.bool (filterOk f)), .c (.bool false), .tp [], .c (.bp 0 0), .c (.bool f.1), .c (.bool false), .tp [], .tp [], .tp [], .tp [], .c (.junk), .ag k41q2q2, .c (.row 2 0)] (k31q2q2 y0 f))) ∧ (lb (.box [.bool f.1, .hs .no tyScope f.2]) ∧ leB (.row tyToken (((scsN f.2 y0) ++ [(openK ), (atomK (nth_String scW (Int.toNat (nth_Scope f.2 (Int.toNat ((y0 : Nat) : Int))).1)))]) ++ [(openK )]) 0 0 none) (.row tyToken ((((scsN f.2 y0) ++ [(openK ), (atomK (nth_String scW (Int.toNat (nth_Scope f.2 (Int.toNat ((y0 : Nat) : Int))).1)))]) ++ [(openK )]) ++ atomsN (nth_Scope f.2 (Int.toNat ((y0 : Nat) : Int))).2.1 q) 0 0 none) ∧ lb (.row tyToken ([(atomK (⟨#[115, 101, 116]⟩ : ByteArray))]) 0 0 none) ∧ lb (.box (k11q2q2 f y0)) ∧ lb (.row tyStr scW 0 0 none) ∧ lb (.row tyToken ([(openK ), (atomK (nth_String scW (Int.toNat (nth_Scope f.2 (Int.toNat ((y0 : Nat) : Int))).1)))]) 0 0 none) ∧ lb (.row tyToken ([(openK )]) 0 0 none) ∧ True) ∧ true = true)) ∧ ∀ y1 : Nat, (y1 ≤ List.length (nth_Scope f.2 (Int.toNat ((y0 : Nat) : Int))).2.1) → (T5 (bif (ltI ((y1 : Nat) : Int) ((List.length (nth_Scope f.2 (Int.toNat ((y0 : Nat) : Int))).2.1 : Nat) : Int)) then (T4 (((1 : Nat) = 1 ∧ (0 : Int) ≤ ((y1 : Nat) : Int) ∧ (((y1 : Nat) : Int) : Int) < ((List.length (nth_Scope f.2 (Int.toNat ((y0 : Nat) : Int))).2.1 : Nat) : Int)) ∧ (True ∧ ((True ∧ true = true) ∧ (True ∧ ((True ∧ List.length ((((scsN f.2 y0) ++ [(openK ), (atomK (nth_String scW (Int.toNat (nth_Scope f.2 (Int.toNat ((y0 : Nat) : Int))).1)))]) ++ [(openK )]) ++ atomsN (nth_Scope f.2 (Int.toNat ((y0 : Nat) : Int))).2.1 y1) + List.length ([(atomK (nth_String (nth_Scope f.2 (Int.toNat ((y0 : Nat) : Int))).2.1 (Int.toNat ((y1 : Nat) : Int))))]) ≤ rowMax) ∧ (T4 (∃ y1' : Nat, (y1' ≤ List.length (nth_Scope f.2 (Int.toNat ((y0 : Nat) : Int))).2.1) ∧ (List.length (nth_Scope f.2 (Int.toNat ((y0 : Nat) : Int))).2.1 - y1') < (List.length (nth_Scope f.2 (Int.toNat ((y0 : Nat) : Int))).2.1 - y1) ∧ ((lxs [.ag [.bool f.1, .hs .no tyScope f.2], .c (.bp 0 0), .c (.raw (.slice none 0 0)), .c (.row 1 0), .c (.int .i64 ((y0 : Nat) : Int)), .c (.bp 3 0)] (leV (.c (.int .i64 (IntKind.wrap .i64 (((y1 : Nat) : Int) + 1)))) (.c (.int .i64 ((y1' : Nat) : Int))) ∧ True ∧ lxs [.c (.junk), .ag [.bool f.1, .hs .no tyScope f.2], .c (.bool (filterOk f)), .c (.bool false), .tp [], .c (.bp 0 0), .c (.bool f.1), .c (.bool false), .tp [], .tp [], .tp [], .tp [], .c (.junk), .ag k41q2q2, .c (.row 2 0)] (k31q2q2 y0 f))) ∧ (lb (.box [.bool f.1, .hs .no tyScope f.2]) ∧ leB (.row tyToken (((((scsN f.2 y0) ++ [(openK ), (atomK (nth_String scW (Int.toNat (nth_Scope f.2 (Int.toNat ((y0 : Nat) : Int))).1)))]) ++ [(openK )]) ++ atomsN (nth_Scope f.2 (Int.toNat ((y0 : Nat) : Int))).2.1 y1) ++ [(atomK (nth_String (nth_Scope f.2 (Int.toNat ((y0 : Nat) : Int))).2.1 (Int.toNat ((y1 : Nat) : Int))))]) 0 0 none) (.row tyToken ((((scsN f.2 y0) ++ [(openK ), (atomK (nth_String scW (Int.toNat (nth_Scope f.2 (Int.toNat ((y0 : Nat) : Int))).1)))]) ++ [(openK )]) ++ atomsN (nth_Scope f.2 (Int.toNat ((y0 : Nat) : Int))).2.1 y1') 0 0 none) ∧ lb (.row tyToken ([(atomK (⟨#[115, 101, 116]⟩ : ByteArray))]) 0 0 none) ∧ lb (.box (k11q2q2 f y0)) ∧ lb (.row tyStr scW 0 0 none) ∧ lb (.row tyToken ([(openK ), (atomK (nth_String scW (Int.toNat (nth_Scope f.2 (Int.toNat ((y0 : Nat) : Int))).1)))]) 0 0 none) ∧ lb (.row tyToken ([(openK )]) 0 0 none) ∧ True) ∧ true = true))))))))) else (True ∧ ((True ∧ true = true) ∧ (True ∧ ((True ∧ List.length ((((scsN f.2 y0) ++ [(openK ), (atomK (nth_String scW (Int.toNat (nth_Scope f.2 (Int.toNat ((y0 : Nat) : Int))).1)))]) ++ [(openK )]) ++ atomsN (nth_Scope f.2 (Int.toNat ((y0 : Nat) : Int))).2.1 y1) + List.length ([(closeK )]) ≤ rowMax) ∧ (True ∧ (∃ _ : Unit, True ∧ ((lxs [.ag [.bool f.1, .hs .no tyScope f.2], .c (.bp 0 0), .c (.raw (.slice none 0 0)), .c (.row 1 0), .c (.int .i64 ((y0 : Nat) : Int)), .c (.bp 3 0)] (k21q2q2 f y0)) ∧ (lb (.box [.bool f.1, .hs .no tyScope f.2]) ∧ leB (.row tyToken (((((scsN f.2 y0) ++ [(openK ), (atomK (nth_String scW (Int.toNat (nth_Scope f.2 (Int.toNat ((y0 : Nat) : Int))).1)))]) ++ [(openK )]) ++ atomsN (nth_Scope f.2 (Int.toNat ((y0 : Nat) : Int))).2.1 y1) ++ [(closeK )]) 0 0 none) (.row tyToken (((scsN f.2 y0) ++ [(openK ), (atomK (nth_String scW (Int.toNat (nth_Scope f.2 (Int.toNat ((y0 : Nat) : Int))).1)))]) ++ nmTok (nth_Scope f.2 (Int.toNat ((y0 : Nat) : Int)))) 0 0 none) ∧ lb (.row tyToken ([(atomK (⟨#[115, 101, 116]⟩ : ByteArray))]) 0 0 none) ∧ lb (.box (k11q2q2 f y0)) ∧ lb (.row tyStr scW 0 0 none) ∧ lb (.row tyToken ([(openK ), (atomK (nth_String scW (Int.toNat (nth_Scope f.2 (Int.toNat ((y0 : Nat) : Int))).1)))]) 0 0 none) ∧ True) ∧ true = true))))))))))))))) else (∃ _ : Unit, True ∧ ((lxs [.ag [.bool f.1, .hs .no tyScope f.2], .c (.bp 0 0), .c (.raw (.slice none 0 0)), .c (.row 1 0), .c (.int .i64 ((y0 : Nat) : Int)), .c (.bp 3 0)] (k21q2q2 f y0)) ∧ (lb (.box [.bool f.1, .hs .no tyScope f.2]) ∧ leB (.row tyToken ((scsN f.2 y0) ++ [(openK ), (atomK (nth_String scW (Int.toNat (nth_Scope f.2 (Int.toNat ((y0 : Nat) : Int))).1)))]) 0 0 none) (.row tyToken (((scsN f.2 y0) ++ [(openK ), (atomK (nth_String scW (Int.toNat (nth_Scope f.2 (Int.toNat ((y0 : Nat) : Int))).1)))]) ++ nmTok (nth_Scope f.2 (Int.toNat ((y0 : Nat) : Int)))) 0 0 none) ∧ lb (.row tyToken ([(atomK (⟨#[115, 101, 116]⟩ : ByteArray))]) 0 0 none) ∧ lb (.box (k11q2q2 f y0)) ∧ lb (.row tyStr scW 0 0 none) ∧ lb (.row tyToken ([(openK ), (atomK (nth_String scW (Int.toNat (nth_Scope f.2 (Int.toNat ((y0 : Nat) : Int))).1)))]) 0 0 none) ∧ True) ∧ true = true))) ∧ ∀ _ : Unit, True → (True ∧ ((True ∧ true = true) ∧ (True ∧ ((True ∧ List.length (((scsN f.2 y0) ++ [(openK ), (atomK (nth_String scW (Int.toNat (nth_Scope f.2 (Int.toNat ((y0 : Nat) : Int))).1)))]) ++ nmTok (nth_Scope f.2 (Int.toNat ((y0 : Nat) : Int)))) + List.length ([(openK )]) ≤ rowMax) ∧ (T2 ((∃ q : Nat, (q ≤ 4) ∧ ((lxs [.ag [.bool f.1, .hs .no tyScope f.2], .c (.bp 0 0), .c (.raw (.slice none 0 0)), .c (.row 1 0), .c (.int .i64 ((y0 : Nat) : Int)), .c (.bp 3 0)] (True ∧ leV (.c (.int .i64 0)) (.c (.int .i64 ((q : Nat) : Int))) ∧ lxs [.c (.junk), .ag [.bool f.1, .hs .no tyScope f.2], .c (.bool (filterOk f)), .c (.bool false), .tp [], .c (.bp 0 0), .c (.bool f.1), .c (.bool false), .tp [], .tp [], .tp [], .tp [], .c (.junk), .ag k41q2q2, .c (.row 2 0)] (k01q2q2 y0 f))) ∧ (lb (.box [.bool f.1, .hs .no tyScope f.2]) ∧ leB (.row tyToken ((((scsN f.2 y0) ++ [(openK ), (atomK (nth_String scW (Int.toNat (nth_Scope f.2 (Int.toNat ((y0 : Nat) : Int))).1)))]) ++ nmTok (nth_Scope f.2 (Int.toNat ((y0 : Nat) : Int)))) ++ [(openK )]) 0 0 none) (.row tyToken (((((scsN f.2 y0) ++ [(openK ), (atomK (nth_String scW (Int.toNat (nth_Scope f.2 (Int.toNat ((y0 : Nat) : Int))).1)))]) ++ nmTok (nth_Scope f.2 (Int.toNat ((y0 : Nat) : Int)))) ++ [(openK )]) ++ evN (nth_Scope f.2 (Int.toNat ((y0 : Nat) : Int))).2.2 q) 0 0 none) ∧ lb (.row tyToken ([(atomK (⟨#[115, 101, 116]⟩ : ByteArray))]) 0 0 none) ∧ lb (.box (k11q2q2 f y0)) ∧ lb (.row tyStr scW 0 0 none) ∧ lb (.row tyToken ([(openK ), (atomK (nth_String scW (Int.toNat (nth_Scope f.2 (Int.toNat ((y0 : Nat) : Int))).1)))]) 0 0 none) ∧ lb (.row tyToken ([(openK )]) 0 0 none) ∧ True) ∧ true = true)) ∧ ∀ y1 : Nat, (y1 ≤ 4) → (T2 (bif (ltI ((y1 : Nat) : Int) 4) then (T3 (true = true ∧ ((0 : Int) ≤ (IntKind.wrap .u64 ((y1 : Nat) : Int)) ∧ (T2 (bif (eqI (IntKind.wrap .i64 (((BitVec.ofInt (IntKind.bits .i64) (shrI .i64 (nth_Scope f.2 (Int.toNat ((y0 : Nat) : Int))).2.2 (IntKind.wrap .u64 ((y1 : Nat) : Int))) &&& BitVec.ofInt (IntKind.bits .i64) 1).toNat : Nat))) 1) then (True ∧ ((True ∧ true = true) ∧ (True ∧ (((1 : Nat) = 1 ∧ (0 : Int) ≤ ((y1 : Nat) : Int) ∧ (((y1 : Nat) : Int) : Int) < ((List.length evW : Nat) : Int)) ∧ (True ∧ ((True ∧ true = true) ∧ (True ∧ ((True ∧ List.length (((((scsN f.2 y0) ++ [(openK ), (atomK (nth_String scW (Int.toNat (nth_Scope f.2 (Int.toNat ((y0 : Nat) : Int))).1)))]) ++ nmTok (nth_Scope f.2 (Int.toNat ((y0 : Nat) : Int)))) ++ [(openK )]) ++ evN (nth_Scope f.2 (Int.toNat ((y0 : Nat) : Int))).2.2 y1) + List.length ([(atomK (nth_String evW (Int.toNat ((y1 : Nat) : Int))))]) ≤ rowMax) ∧ (T4 (∃ y1' : Nat, (y1' ≤ 4) ∧ (4 - y1') < (4 - y1) ∧ ((lxs [.ag [.bool f.1, .hs .no tyScope f.2], .c (.bp 0 0), .c (.raw (.slice none 0 0)), .c (.row 1 0), .c (.int .i64 ((y0 : Nat) : Int)), .c (.bp 3 0)] (k61q2q2 y1 y1' f y0)) ∧ (lb (.box [.bool f.1, .hs .no tyScope f.2]) ∧ leB (.row tyToken ((((((scsN f.2 y0) ++ [(openK ), (atomK (nth_String scW (Int.toNat (nth_Scope f.2 (Int.toNat ((y0 : Nat) : Int))).1)))]) ++ nmTok (nth_Scope f.2 (Int.toNat ((y0 : Nat) : Int)))) ++ [(openK )]) ++ evN (nth_Scope f.2 (Int.toNat ((y0 : Nat) : Int))).2.2 y1) ++ [(atomK (nth_String evW (Int.toNat ((y1 : Nat) : Int))))]) 0 0 none) (.row tyToken (((((scsN f.2 y0) ++ [(openK ), (atomK (nth_String scW (Int.toNat (nth_Scope f.2 (Int.toNat ((y0 : Nat) : Int))).1)))]) ++ nmTok (nth_Scope f.2 (Int.toNat ((y0 : Nat) : Int)))) ++ [(openK )]) ++ evN (nth_Scope f.2 (Int.toNat ((y0 : Nat) : Int))).2.2 y1') 0 0 none) ∧ lb (.row tyToken ([(atomK (⟨#[115, 101, 116]⟩ : ByteArray))]) 0 0 none) ∧ lb (.box (k11q2q2 f y0)) ∧ lb (.row tyStr scW 0 0 none) ∧ lb (.row tyToken ([(openK ), (atomK (nth_String scW (Int.toNat (nth_Scope f.2 (Int.toNat ((y0 : Nat) : Int))).1)))]) 0 0 none) ∧ lb (.row tyToken ([(openK )]) 0 0 none) ∧ True) ∧ true = true))))))))))) else (T3 (∃ y1' : Nat, (y1' ≤ 4) ∧ (4 - y1') < (4 - y1) ∧ ((lxs [.ag [.bool f.1, .hs .no tyScope f.2], .c (.bp 0 0), .c (.raw (.slice none 0 0)), .c (.row 1 0), .c (.int .i64 ((y0 : Nat) : Int)), .c (.bp 3 0)] (k61q2q2 y1 y1' f y0)) ∧ (lb (.box [.bool f.1, .hs .no tyScope f.2]) ∧ leB (.row tyToken (((((scsN f.2 y0) ++ [(openK ), (atomK (nth_String scW (Int.toNat (nth_Scope f.2 (Int.toNat ((y0 : Nat) : Int))).1)))]) ++ nmTok (nth_Scope f.2 (Int.toNat ((y0 : Nat) : Int)))) ++ [(openK )]) ++ evN (nth_Scope f.2 (Int.toNat ((y0 : Nat) : Int))).2.2 y1) 0 0 none) (.row tyToken (((((scsN f.2 y0) ++ [(openK ), (atomK (nth_String scW (Int.toNat (nth_Scope f.2 (Int.toNat ((y0 : Nat) : Int))).1)))]) ++ nmTok (nth_Scope f.2 (Int.toNat ((y0 : Nat) : Int)))) ++ [(openK )]) ++ evN (nth_Scope f.2 (Int.toNat ((y0 : Nat) : Int))).2.2 y1') 0 0 none) ∧ lb (.row tyToken ([(atomK (⟨#[115, 101, 116]⟩ : ByteArray))]) 0 0 none) ∧ lb (.box (k11q2q2 f y0)) ∧ lb (.row tyStr scW 0 0 none) ∧ lb (.row tyToken ([(openK ), (atomK (nth_String scW (Int.toNat (nth_Scope f.2 (Int.toNat ((y0 : Nat) : Int))).1)))]) 0 0 none) ∧ lb (.row tyToken ([(openK )]) 0 0 none) ∧ True) ∧ true = true)))))))) else (True ∧ ((True ∧ true = true) ∧ ((True ∧ true = true) ∧ (True ∧ ((True ∧ List.length (((((scsN f.2 y0) ++ [(openK ), (atomK (nth_String scW (Int.toNat (nth_Scope f.2 (Int.toNat ((y0 : Nat) : Int))).1)))]) ++ nmTok (nth_Scope f.2 (Int.toNat ((y0 : Nat) : Int)))) ++ [(openK )]) ++ evN (nth_Scope f.2 (Int.toNat ((y0 : Nat) : Int))).2.2 y1) + List.length ([(closeK ), (closeK )]) ≤ rowMax) ∧ (T4 (∃ y0' : Nat, (y0' ≤ List.length f.2) ∧ (List.length f.2 - y0') < (List.length f.2 - y0) ∧ ((lxs [.ag [.bool f.1, .hs .no tyScope f.2], .c (.bp 0 0), .c (.raw (.slice none 0 0)), .c (.row 1 0)] (leV (.c (.int .i64 (IntKind.wrap .i64 (((y0 : Nat) : Int) + 1)))) (.c (.int .i64 ((y0' : Nat) : Int))) ∧ TN 3 (lxs [.c (.junk), .ag [.bool f.1, .hs .no tyScope f.2], .c (.bool (filterOk f)), .c (.bool false), .tp [], .c (.bp 0 0), .c (.bool f.1), .c (.bool false), .tp [], .tp [], .tp [], .tp [], .c (.junk), .ag k41q2q2, .c (.row 2 0)] (TN 78 (lxs [.tp []] True))))) ∧ (lb (.box [.bool f.1, .hs .no tyScope f.2]) ∧ leB (.row tyToken ((((((scsN f.2 y0) ++ [(openK ), (atomK (nth_String scW (Int.toNat (nth_Scope f.2 (Int.toNat ((y0 : Nat) : Int))).1)))]) ++ nmTok (nth_Scope f.2 (Int.toNat ((y0 : Nat) : Int)))) ++ [(openK )]) ++ evN (nth_Scope f.2 (Int.toNat ((y0 : Nat) : Int))).2.2 y1) ++ [(closeK ), (closeK )]) 0 0 none) (.row tyToken (scsN f.2 y0') 0 0 none) ∧ lb (.row tyToken ([(atomK (⟨#[115, 101, 116]⟩ : ByteArray))]) 0 0 none) ∧ True) ∧ true = true)))))))))))))))))))))))))))))) else (T2 (((scsN f.2 y0) = (filTok f)) ∧ true = true))))))))))))))))) (by kernel_rfl) ?_
  unfold k61q2q2 k31q2q2 k21q2q2 k41q2q2 k01q2q2 k51q2q2 k11q2q2 T2 T3 T4 T5
  simp only [leB_rowU8, btw_iff, btw_not, flagsOk, Bool.not_true, Bool.not_false, SI2A, eq_self]
  refine ⟨fun h => (if_pos h).symm, fun h => ⟨fun h1 => ⟨by simp only [List.length_cons, List.length_nil]; unfold rowMax; omega, fil_off h h1⟩, fun h1 => ⟨by simp only [List.length_cons, List.length_nil]; unfold rowMax; omega, ⟨0, Nat.zero_le _, rfl, rfl⟩, fun y hy => ⟨fun hlt => ?_, fun hge => fil_on h h1 hy hge⟩⟩⟩⟩
  have hF := filter_at h h1
  have hs := hF.2 y (by omega)
  have hsc := scope_facts hs
  have hl := scs_len h h1 y hy
  have ha := atoms_len (nth_Scope f.2 y).2.1
  have he := ev_len (nth_Scope f.2 y).2.2
  have hm := nmTok_len hs
  have hf := hF.1
  repeat' (with_reducible first | exact trivial | apply And.intro | intro _)
  all_goals first
    | (with_reducible trivial)
    | omega
    | (with_reducible assumption)
    | (show _ < (5 : Int); omega)
    | ((try simp only [List.length_append, List.length_cons, List.length_nil, byteL_len, ha]); (first | unfold rowMax | unfold maxLen); omega)
    | (rename_i z _ _; have := he z; ((try simp only [List.length_append, List.length_cons, List.length_nil, byteL_len, ha]); (first | unfold rowMax | unfold maxLen); omega))
    | (rename_i z _ _ _; have := he z; ((try simp only [List.length_append, List.length_cons, List.length_nil, byteL_len, ha]); (first | unfold rowMax | unfold maxLen); omega))
    | exact ⟨0, Nat.zero_le _, rfl, (List.append_nil _).symm⟩
    | (rename_i z hz h2; exact ⟨z + 1, by omega, by omega, wrapN (by unfold maxLen; omega), List.append_assoc _ _ _⟩)
    | exact ⟨(), nm_join (by assumption) (by assumption) (by assumption)⟩
    | exact ⟨(), nm_none (by assumption)⟩
    | (rw [wu64 (by omega)]; omega)
    | (show _ < (4 : Int); omega)
    | (rename_i z hz h2 hb; refine ⟨z + 1, by omega, by omega, wrapN (by unfold maxLen; omega), ?_⟩; rw [ev_y (bitU_y (by omega) hb)]; exact List.append_assoc _ _ _)
    | (rename_i z hz h2 hb; refine ⟨z + 1, by omega, by omega, wrapN (by unfold maxLen; omega), ?_⟩; rw [ev_n (bitU_n (by omega) hb)])
    | (rename_i z hz hz2; exact ⟨y + 1, by omega, by omega, wrapN (by unfold maxLen; omega), sc_end hz hz2⟩)
def e_s_FilterTokens : Entry Try.prog := ⟨17, [.s tyFilter], fun x => True, fun x => .c (.row 0 0), fun x => [.row tyToken (filTok x.1) 0 0 none], fun x hx => b_s_FilterTokens x.1, Try.call17⟩
end Go.Proofs.Ytoigkpkafgjeaaa
