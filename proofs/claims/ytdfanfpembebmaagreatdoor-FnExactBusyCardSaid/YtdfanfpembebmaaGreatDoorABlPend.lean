/-
  What a session has to report.
  No condition but what the arguments' cells hold. Printed by vcgen.py.
-/
import Derived.Test.YtdfanfpembebmaaGreatDoorABlOk
set_option linter.unusedSimpArgs false
set_option linter.unusedVariables false
set_option maxRecDepth 100000
set_option maxHeartbeats 4000000
namespace Go.Proofs.YtdfanfpembebmaaGreatDoor
open Go.ChangeShapes Go.WideShapes Go.ChangeAt Go.RowKit Go.Joins Go.Deep
open GoRep (rep bulk)

def askB (z : GScope) : Bool := eqI z.1 1 && eqI (IntKind.wrap .i64 (((BitVec.ofInt (IntKind.bits .i64) z.2.2 &&& BitVec.ofInt (IntKind.bits .i64) 7).toNat : Nat))) 7
def mayTell (s : GSession) : Bool := s.1 && (eqI s.2.1 3 && (!eqS s.2.2.2.2.2.2.1 (⟨#[]⟩ : ByteArray) || (!eqS s.2.2.2.2.2.2.2.1 (⟨#[]⟩ : ByteArray) || (s.2.2.2.2.2.1.1 && List.any s.2.2.2.2.2.1.2 askB))))
def noteP (b o : Bool) (n : GNote) : Bool := (b && eqI n.1 1) || (o && neI n.1 1)
def pendB (s : GSession) : Bool := s.1 && (s.2.2.2.2.2.2.2.2.1.2.2 || ((mayTell s && s.2.2.2.2.2.2.2.2.1.2.1) || geI (idxL (noteP (mayTell s) true) s.2.2.2.2.2.2.2.2.1.1) 0))
theorem askT {z : GScope} (a : z.1 = 1) (b : (IntKind.wrap .i64 (((BitVec.ofInt (IntKind.bits .i64) z.2.2 &&& BitVec.ofInt (IntKind.bits .i64) 7).toNat : Nat))) = 7) : askB z = true := by simp only [askB, eqI_true.2 a, eqI_true.2 b]; rfl
theorem askF1 {z : GScope} (a : ¬z.1 = 1) : askB z = false := by simp only [askB, eqI_false.2 a]; rfl
theorem askF2 {z : GScope} (b : ¬(IntKind.wrap .i64 (((BitVec.ofInt (IntKind.bits .i64) z.2.2 &&& BitVec.ofInt (IntKind.bits .i64) 7).toNat : Nat))) = 7) : askB z = false := by simp only [askB, eqI_false.2 b, Bool.and_false]
theorem ntT1 {b o : Bool} {n : GNote} (h : n.1 = 1) (hb : b = true) : noteP b o n = true := by simp only [noteP, eqI_true.2 h, hb]; rfl
theorem ntT2 {b o : Bool} {n : GNote} (h : ¬n.1 = 1) (ho : o = true) : noteP b o n = true := by simp [noteP, neI, h, ho]
theorem ntF1 {b o : Bool} {n : GNote} (h : n.1 = 1) (hb : b = false) : noteP b o n = false := by simp [noteP, neI, h, hb]
theorem ntF2 {b o : Bool} {n : GNote} (h : ¬n.1 = 1) (ho : o = false) : noteP b o n = false := by simp [noteP, eqI, h, ho]
theorem mt1 {s : GSession} (h : s.1 = false) : mayTell s = false := by simp only [mayTell, h]; rfl
theorem mt2 {s : GSession} (h : ¬s.2.1 = 3) : mayTell s = false := by simp only [mayTell, eqI_false.2 h, Bool.false_and, Bool.and_false]
theorem mt3 {s : GSession} (h1 : s.1 = true) (h2 : s.2.1 = 3) (h : ¬s.2.2.2.2.2.2.1 = (⟨#[]⟩ : ByteArray)) : mayTell s = true := by simp only [mayTell, h1, eqI_true.2 h2, eqS_false.2 h]; rfl
theorem mt4 {s : GSession} (h1 : s.1 = true) (h2 : s.2.1 = 3) (h : ¬s.2.2.2.2.2.2.2.1 = (⟨#[]⟩ : ByteArray)) : mayTell s = true := by simp only [mayTell, h1, eqI_true.2 h2, eqS_false.2 h, Bool.not_false, Bool.true_or, Bool.or_true, Bool.true_and]
theorem mt5 {s : GSession} (h1 : s.2.2.2.2.2.2.1 = (⟨#[]⟩ : ByteArray)) (h2 : s.2.2.2.2.2.2.2.1 = (⟨#[]⟩ : ByteArray)) (h : s.2.2.2.2.2.1.1 = false) : mayTell s = false := by simp only [mayTell, h, eqS_true.2 h1, eqS_true.2 h2, Bool.not_true, Bool.false_and, Bool.false_or, Bool.and_false]
theorem mt6 {s : GSession} (h1 : s.1 = true) (h2 : s.2.1 = 3) (h : s.2.2.2.2.2.1.1 = true) (ha : List.any s.2.2.2.2.2.1.2 askB = true) : mayTell s = true := by simp only [mayTell, h1, eqI_true.2 h2, h, ha, Bool.and_true, Bool.or_true]
theorem mt7 {s : GSession} (h1 : s.2.2.2.2.2.2.1 = (⟨#[]⟩ : ByteArray)) (h2 : s.2.2.2.2.2.2.2.1 = (⟨#[]⟩ : ByteArray)) (ha : List.any s.2.2.2.2.2.1.2 askB = false) : mayTell s = false := by simp only [mayTell, ha, eqS_true.2 h1, eqS_true.2 h2, Bool.not_true, Bool.and_false, Bool.false_or]
theorem b_i_MayTell_1 (z : GScope) : BCalls Tryz.prog 82 [.ag [.int .i64 z.1, .hs .no tyStr z.2.1, .int .i64 z.2.2]] (.c (.bool (askB z))) [] := by
  refine bc0 [] [] [] [] L0 Tryz.func82 (fun hwf => ?_)
  refine Eq.mpr (β := (True ∧ (True ∧ (True ∧ (True ∧ (True ∧ (True ∧ (bif (eqI z.1 1) then (True ∧ (True ∧ (True ∧ (True ∧ (True ∧ (True ∧ (rB (eqI (IntKind.wrap .i64 (((BitVec.ofInt (IntKind.bits .i64) z.2.2 &&& BitVec.ofInt (IntKind.bits .i64) 7).toNat : Nat))) 7) (askB z)))))))) else (True ∧ (True ∧ (rB false (askB z)))))))))))) (by kernel_rfl) ?_
  simp only [SIA, eq_self]
  repeat' (first | apply And.intro | intro _)
  all_goals (first | trivial | (rw [Bool.eq_iff_iff]; simp_all [Prod.ext_iff, EQA, askB]; done) | (simp_all [Prod.ext_iff, EQA, askB]; done) | omega)
def e_i_MayTell_1 : Entry Tryz.prog := ⟨82, [.s tyScope], fun x => True, fun x => .c (.bool (askB x.1)), fun _ => [], fun x hx => b_i_MayTell_1 x.1, Tryz.call82⟩
theorem b_i_MayTell (s : GSession) : BCalls Tryz.prog 59 [.ag (cellsOf tySession s)] (.c (.bool (mayTell s))) [] := by
  refine bc0 [e_i_MayTell_1] [e_slices_ContainsFunc_i_Scope_i_Scope] [] [] L0 Tryz.func59 (fun hwf => ?_)
  refine Eq.mpr (β := (T6 (bif s.2.2.2.2.2.1.1 then (T3 (((∀ z0 : GScope, True ∧ True) ∧ ∀ (_ : GScope → Bool) (_ : List GScope), true = true) ∧ (T5 (bif s.1 then (T5 (bif (eqI s.2.1 3) then (T4 (bif (!eqS s.2.2.2.2.2.2.1 (⟨#[]⟩ : ByteArray)) then (T5 (rB true (mayTell s))) else (T5 (bif (!eqS s.2.2.2.2.2.2.2.1 (⟨#[]⟩ : ByteArray)) then (T3 (rB true (mayTell s))) else (T4 (rB (List.any s.2.2.2.2.2.1.2 (fun z0 : GScope => askB z0)) (mayTell s))))))) else (T2 (rB false (mayTell s))))) else (T4 (rB false (mayTell s))))))) else (T5 (bif s.1 then (T5 (bif (eqI s.2.1 3) then (T4 (bif (!eqS s.2.2.2.2.2.2.1 (⟨#[]⟩ : ByteArray)) then (T5 (rB true (mayTell s))) else (T5 (bif (!eqS s.2.2.2.2.2.2.2.1 (⟨#[]⟩ : ByteArray)) then (T3 (rB true (mayTell s))) else (T4 (rB false (mayTell s))))))) else (T2 (rB false (mayTell s))))) else (T4 (rB false (mayTell s)))))))) (by kernel_rfl) ?_
  unfold T2 T3 T4 T5 T6
  simp only [SIA, eq_self]
  repeat' (first | apply And.intro | intro _)
  all_goals (first | trivial | (rw [Bool.eq_iff_iff]; simp_all [Prod.ext_iff, EQA, mayTell]; done) | (simp_all [Prod.ext_iff, EQA, mayTell]; done) | omega)
def e_i_MayTell : Entry Tryz.prog := ⟨59, [.s tySession], fun x => True, fun x => .c (.bool (mayTell x.1)), fun _ => [], fun x hx => b_i_MayTell x.1, Tryz.call59⟩
def L_s_MayTell (s : GSession) : Nat → List AV → Mem → LoopA
  | 6, tm, M => ⟨Nat, fun y => (anyR (setA tm [(2, .any), (3, .c (.int .i64 ((y : Nat) : Int)))]) 20 32, M), fun y => (y ≤ List.length s.2.2.2.2.2.1.2 ∧ ∀ j, j < y → askB (nth_Scope s.2.2.2.2.2.1.2 j) = false), fun y => (List.length s.2.2.2.2.2.1.2 - y)⟩
  | _, _, _ => ⟨Unit, fun _ => ([], []), fun _ => False, fun _ => 0⟩
def k0qal5u (s : GSession) : List AC := [.bool s.1, .int .i64 s.2.1, .int .i64 s.2.2.1, .int .i64 s.2.2.2.1, .hs .no tySpan s.2.2.2.2.1, .bool s.2.2.2.2.2.1.1, .hs .no tyScope s.2.2.2.2.2.1.2, .str s.2.2.2.2.2.2.1, .str s.2.2.2.2.2.2.2.1, .hs .no tyNote s.2.2.2.2.2.2.2.2.1.1, .bool s.2.2.2.2.2.2.2.2.1.2.1, .bool s.2.2.2.2.2.2.2.2.1.2.2, .str s.2.2.2.2.2.2.2.2.2.1.1, .bool s.2.2.2.2.2.2.2.2.2.1.2, .str s.2.2.2.2.2.2.2.2.2.2.1.1, .str s.2.2.2.2.2.2.2.2.2.2.1.2, .int .i64 s.2.2.2.2.2.2.2.2.2.2.2]
def k1qal5u (s : GSession) (y0 : Nat) : Prop := (T3 (∃ y0' : Nat, (y0' ≤ List.length s.2.2.2.2.2.1.2 ∧ ∀ j, j < y0' → askB (nth_Scope s.2.2.2.2.2.1.2 j) = false) ∧ (List.length s.2.2.2.2.2.1.2 - y0') < (List.length s.2.2.2.2.2.1.2 - y0) ∧ ((lxs [.ag (k0qal5u s), .c (.bp 0 0)] (True ∧ leV (.c (.int .i64 (IntKind.wrap .i64 (((y0 : Nat) : Int) + 1)))) (.c (.int .i64 ((y0' : Nat) : Int))) ∧ lxs [.c (.bp 0 0), .c (.bool s.1), .c (.bool (!s.1)), .c (.bool false), .c (.bp 0 1), .c (.int .i64 s.2.1), .c (.bool (neI s.2.1 3)), .c (.bool false), .c (.bp 0 7), .c (.str s.2.2.2.2.2.2.1), .c (.bool (!eqS s.2.2.2.2.2.2.1 (⟨#[]⟩ : ByteArray))), .c (.bool false), .c (.bp 0 8), .c (.str s.2.2.2.2.2.2.2.1), .c (.bool (!eqS s.2.2.2.2.2.2.2.1 (⟨#[]⟩ : ByteArray))), .c (.bool false)] (TN 32 True))) ∧ (lb (.box (k0qal5u s)) ∧ True) ∧ true = true)))
theorem b_s_MayTell (s : GSession) : BCalls Tryz.prog 57 [.ag (cellsOf tySession s)] (.c (.bool (mayTell s))) [] := by
  refine bc0 [] [] [] [] (L_s_MayTell s) Tryz.func57 (fun hwf => ?_)
  refine Eq.mpr (β := (T6 (bif (!s.1) then (T2 (rB false (mayTell s))) else (T4 (bif (neI s.2.1 3) then (True ∧ (rB false (mayTell s))) else (T4 (bif (!eqS s.2.2.2.2.2.2.1 (⟨#[]⟩ : ByteArray)) then (T2 (rB true (mayTell s))) else (T4 (bif (!eqS s.2.2.2.2.2.2.2.1 (⟨#[]⟩ : ByteArray)) then (True ∧ (rB true (mayTell s))) else (True ∧ ((∃ q : Nat, (q ≤ List.length s.2.2.2.2.2.1.2 ∧ ∀ j, j < q → askB (nth_Scope s.2.2.2.2.2.1.2 j) = false) ∧ ((lxs [.ag (k0qal5u s), .c (.bp 0 0)] (True ∧ leV (.c (.int .i64 0)) (.c (.int .i64 ((q : Nat) : Int))) ∧ lxs [.c (.bp 0 0), .c (.bool s.1), .c (.bool (!s.1)), .c (.bool false), .c (.bp 0 1), .c (.int .i64 s.2.1), .c (.bool (neI s.2.1 3)), .c (.bool false), .c (.bp 0 7), .c (.str s.2.2.2.2.2.2.1), .c (.bool (!eqS s.2.2.2.2.2.2.1 (⟨#[]⟩ : ByteArray))), .c (.bool false), .c (.bp 0 8), .c (.str s.2.2.2.2.2.2.2.1), .c (.bool (!eqS s.2.2.2.2.2.2.2.1 (⟨#[]⟩ : ByteArray))), .c (.bool false)] (TN 32 True))) ∧ (lb (.box (k0qal5u s)) ∧ True) ∧ true = true)) ∧ ∀ y0 : Nat, (y0 ≤ List.length s.2.2.2.2.2.1.2 ∧ ∀ j, j < y0 → askB (nth_Scope s.2.2.2.2.2.1.2 j) = false) → (T7 (bif (ltI ((y0 : Nat) : Int) ((List.length s.2.2.2.2.2.1.2 : Nat) : Int)) then (T4 (bif s.2.2.2.2.2.1.1 then (T4 (((3 : Nat) = 3 ∧ (0 : Int) ≤ ((y0 : Nat) : Int) ∧ (((y0 : Nat) : Int) : Int) < ((List.length s.2.2.2.2.2.1.2 : Nat) : Int)) ∧ (T4 (bif (eqI (nth_Scope s.2.2.2.2.2.1.2 (Int.toNat ((y0 : Nat) : Int))).1 1) then (T4 (((3 : Nat) = 3 ∧ (0 : Int) ≤ ((y0 : Nat) : Int) ∧ (((y0 : Nat) : Int) : Int) < ((List.length s.2.2.2.2.2.1.2 : Nat) : Int)) ∧ (T5 (bif (eqI (IntKind.wrap .i64 (((BitVec.ofInt (IntKind.bits .i64) (nth_Scope s.2.2.2.2.2.1.2 (Int.toNat ((y0 : Nat) : Int))).2.2 &&& BitVec.ofInt (IntKind.bits .i64) 7).toNat : Nat))) 7) then (True ∧ (rB true (mayTell s))) else (k1qal5u s y0))))) else (True ∧ (k1qal5u s y0)))))) else (True ∧ (rB false (mayTell s))))) else (T2 (rB false (mayTell s)))))))))))))))) (by kernel_rfl) ?_
  unfold k1qal5u k0qal5u T2 T3 T4 T5 T6 T7
  simp only [SI2A, eq_self]
  have hm : List.length s.2.2.2.2.2.1.2 ≤ maxLen := (by first | exact hwf.1.1.1 | exact hwf.1.2.1.1 | exact hwf.1.2.2.1.1 | exact hwf.1.2.2.2.1.1 | exact hwf.1.2.2.2.2.1.1 | exact hwf.1.2.2.2.2.2.1.1 | exact hwf.1.2.2.2.2.2.2.1.1 | exact hwf.1.2.2.2.2.2.2.2.1.1 | exact hwf.1.2.2.2.2.2.2.2.2.1.1 | exact hwf.1.2.2.2.2.2.2.2.2.2.1.1 | exact hwf.1.2.2.2.2.2.2.2.2.2.2.1.1 | exact hwf.1.2.2.2.2.2.2.2.2.2.2.2.1.1 | exact hwf.1.2.2.2.2.2.2.2.2.2.2.2.2.1.1 | exact hwf.1.2.2.2.2.2.2.2.2.2.2.2.2.2.1.1 | exact hwf.1.2.2.2.2.2.2.2.2.2.2.2.2.2.2.1.1 | exact hwf.1.2.2.2.2.2.2.2.2.2.2.2.2.2.2.2.1.1 | exact hwf.1.2.2.2.2.2.2.2.2.2.2.2.2.2.2.2.2.1.1 | exact hwf.1.2.2.2.2.2.2.2.2.2.2.2.2.2.2.2.2.2.1.1 | exact hwf.1.2.2.2.2.2.2.2.2.2.2.2.2.2.2.2.2.2.2.1.1 | exact hwf.1.2.2.2.2.2.2.2.2.2.2.2.2.2.2.2.2.2.2.2.1.1 | exact hwf.1.2.2.2.2.2.2.2.2.2.2.2.2.2.2.2.2.2.2.2.2.1.1 | exact hwf.1.2.2.2.2.2.2.2.2.2.2.2.2.2.2.2.2.2.2.2.2.2.1.1 | exact hwf.1.2.2.2.2.2.2.2.2.2.2.2.2.2.2.2.2.2.2.2.2.2.2.1.1 | exact hwf.1.2.2.2.2.2.2.2.2.2.2.2.2.2.2.2.2.2.2.2.2.2.2.2.1.1)
  repeat' (with_reducible first | exact trivial | apply And.intro | intro _)
  all_goals first
    | omega
    | (with_reducible assumption)
    | exact ⟨0, ⟨Nat.zero_le _, allN_zero⟩, rfl⟩
    | exact (mt1 (by with_reducible assumption)).symm
    | exact (mt2 (by with_reducible assumption)).symm
    | exact (mt3 (by with_reducible assumption) (by with_reducible assumption) (by with_reducible assumption)).symm
    | exact (mt4 (by with_reducible assumption) (by with_reducible assumption) (by with_reducible assumption)).symm
    | exact (mt5 (by with_reducible assumption) (by with_reducible assumption) (by with_reducible assumption)).symm
    | (rename_i y hy h1 h2 h3 h4; exact (mt6 (by with_reducible assumption) (by with_reducible assumption) h2 (any_at_nth (t := tyScope) (p := askB) (Int.ofNat_lt.1 h1) (askT h3 h4))).symm)
    | (rename_i y hy h1 h2 h3; exact ⟨y + 1, ⟨by omega, allN_step hy.2 (askF1 h3)⟩, by omega, wrapN (by omega)⟩)
    | (rename_i y hy h1 h2 h3 h4; exact ⟨y + 1, ⟨by omega, allN_step hy.2 (askF2 h4)⟩, by omega, wrapN (by omega)⟩)
    | (rename_i y hy hge; obtain rfl : y = List.length s.2.2.2.2.2.1.2 := (by omega); exact (mt7 (by with_reducible assumption) (by with_reducible assumption) (any_of_nth (t := tyScope) (p := askB) hy.2)).symm)
def e_s_MayTell : Entry Tryz.prog := ⟨57, [.s tySession], fun x => True, fun x => .c (.bool (mayTell x.1)), fun _ => [], fun x hx => b_s_MayTell x.1, Tryz.call57⟩
theorem b_i_FirstNote_1 (n : GNote) (b : Bool) (o : Bool) : BCalls Tryz.prog 84 [.ag (cellsOf tyNote n), .c (.ep .no tyBool ([b]) 0 0), .c (.ep .no tyBool ([o]) 0 0)] (.c (.bool (noteP b o n))) [] := by
  refine bc0 [e_i_isBoxNote, e_i_isOtherNote] [] [] [] L0 Tryz.func84 (fun hwf => ?_)
  refine Eq.mpr (β := (True ∧ (True ∧ (True ∧ (True ∧ (bif b then (True ∧ ((True ∧ true = true) ∧ (True ∧ (True ∧ (bif eqI n.1 1 then (True ∧ (True ∧ (rB true (noteP b o n)))) else (True ∧ (True ∧ (bif o then (True ∧ ((True ∧ true = true) ∧ (True ∧ (True ∧ (True ∧ (rB (neI n.1 1) (noteP b o n))))))) else (True ∧ (True ∧ (True ∧ (rB false (noteP b o n))))))))))))) else (True ∧ (True ∧ (True ∧ (True ∧ (bif o then (True ∧ ((True ∧ true = true) ∧ (True ∧ (True ∧ (True ∧ (rB (neI n.1 1) (noteP b o n))))))) else (True ∧ (True ∧ (True ∧ (rB false (noteP b o n)))))))))))))))) (by kernel_rfl) ?_
  simp only [SIA, eq_self]
  repeat' (first | apply And.intro | intro _)
  all_goals (first | trivial | (rw [Bool.eq_iff_iff]; simp_all [Prod.ext_iff, EQA, noteP]; done) | (simp_all [Prod.ext_iff, EQA, noteP]; done) | omega)
def e_i_FirstNote_1 : Entry Tryz.prog := ⟨84, [.s tyNote, .p tyBool, .p tyBool], fun x => True, fun x => .c (.bool (noteP x.2.1 x.2.2.1 x.1)), fun _ => [], fun x hx => b_i_FirstNote_1 x.1 x.2.1 x.2.2.1, Tryz.call84⟩
theorem b_i_FirstNote (qu : GQueue) (b : Bool) (o : Bool) : BCalls Tryz.prog 60 [.ag [.hs .no tyNote qu.1, .bool qu.2.1, .bool qu.2.2], .c (.bool b), .c (.bool o)] (.c (.int .i64 (idxL (noteP b o) qu.1))) [] := by
  refine bc0 [e_i_FirstNote_1] [e_slices_IndexFunc_i_Note_i_Note] [] [] L0 Tryz.func60 (fun hwf => ?_)
  refine Eq.mpr (β := (True ∧ (True ∧ (True ∧ (True ∧ (True ∧ (True ∧ (True ∧ (((∀ z0 : GNote, True ∧ True) ∧ ∀ (_ : GNote → Bool) (_ : List GNote), true = true) ∧ (True ∧ (rI (idxL (fun z0 : GNote => noteP b o z0) qu.1) (idxL (noteP b o) qu.1)))))))))))) (by kernel_rfl) ?_
  simp only [SI2A, eq_self]
  repeat' (with_reducible first | exact trivial | apply And.intro | intro _)
  all_goals first
    | (with_reducible trivial)
    | omega
    | (with_reducible assumption)
def e_i_FirstNote : Entry Tryz.prog := ⟨60, [.s tyQueue, .v tyBool, .v tyBool], fun x => True, fun x => .c (.int .i64 (idxL (noteP x.2.1 x.2.2.1) x.1.1)), fun _ => [], fun x hx => b_i_FirstNote x.1 x.2.1 x.2.2.1, Tryz.call60⟩
def L_s_FirstNote (qu : GQueue) (b : Bool) (o : Bool) : Nat → List AV → Mem → LoopA
  | 2, tm, M => ⟨Nat, fun y => (anyR (setA tm [(6, .any), (7, .c (.int .i64 ((y : Nat) : Int)))]) 8 30, M), fun y => (y ≤ List.length qu.1 ∧ ∀ j, j < y → noteP b o (nth_Note qu.1 j) = false), fun y => (List.length qu.1 - y)⟩
  | _, _, _ => ⟨Unit, fun _ => ([], []), fun _ => False, fun _ => 0⟩
def k0uw07m (qu : GQueue) (b : Bool) (o : Bool) (y0 : Nat) : Prop := (T3 (∃ y0' : Nat, (y0' ≤ List.length qu.1 ∧ ∀ j, j < y0' → noteP b o (nth_Note qu.1 j) = false) ∧ (List.length qu.1 - y0') < (List.length qu.1 - y0) ∧ ((lxs [.ag [.hs .no tyNote qu.1, .bool qu.2.1, .bool qu.2.2], .c (.bool b), .c (.bool o), .c (.bp 0 0), .tp [], .tp []] (True ∧ leV (.c (.int .i64 (IntKind.wrap .i64 (((y0 : Nat) : Int) + 1)))) (.c (.int .i64 ((y0' : Nat) : Int))) ∧ TN 30 True)) ∧ (lb (.box [.hs .no tyNote qu.1, .bool qu.2.1, .bool qu.2.2]) ∧ True) ∧ true = true)))
def k1uw07m (y0 : Nat) (qu : GQueue) (o : Bool) (b : Bool) : Prop := (T3 (((4 : Nat) = 4 ∧ (0 : Int) ≤ ((y0 : Nat) : Int) ∧ (((y0 : Nat) : Int) : Int) < ((List.length qu.1 : Nat) : Int)) ∧ (T4 (bif (neI (nth_Note qu.1 (Int.toNat ((y0 : Nat) : Int))).1 1) then (T3 (bif o then (T2 (rI ((y0 : Nat) : Int) (idxL (noteP b o) qu.1))) else (k0uw07m qu b o y0))) else (T2 (k0uw07m qu b o y0))))))
theorem b_s_FirstNote (qu : GQueue) (b : Bool) (o : Bool) : BCalls Tryz.prog 58 [.ag [.hs .no tyNote qu.1, .bool qu.2.1, .bool qu.2.2], .c (.bool b), .c (.bool o)] (.c (.int .i64 (idxL (noteP b o) qu.1))) [] := by
  refine bc0 [] [] [] [] (L_s_FirstNote qu b o) Tryz.func58 (fun hwf => ?_)
  refine Eq.mpr (β := (T3 ((∃ q : Nat, (q ≤ List.length qu.1 ∧ ∀ j, j < q → noteP b o (nth_Note qu.1 j) = false) ∧ ((lxs [.ag [.hs .no tyNote qu.1, .bool qu.2.1, .bool qu.2.2], .c (.bool b), .c (.bool o), .c (.bp 0 0), .tp [], .tp []] (True ∧ leV (.c (.int .i64 0)) (.c (.int .i64 ((q : Nat) : Int))) ∧ TN 30 True)) ∧ (lb (.box [.hs .no tyNote qu.1, .bool qu.2.1, .bool qu.2.2]) ∧ True) ∧ true = true)) ∧ ∀ y0 : Nat, (y0 ≤ List.length qu.1 ∧ ∀ j, j < y0 → noteP b o (nth_Note qu.1 j) = false) → (T5 (bif (ltI ((y0 : Nat) : Int) ((List.length qu.1 : Nat) : Int)) then (T3 (((4 : Nat) = 4 ∧ (0 : Int) ≤ ((y0 : Nat) : Int) ∧ (((y0 : Nat) : Int) : Int) < ((List.length qu.1 : Nat) : Int)) ∧ (T4 (bif (eqI (nth_Note qu.1 (Int.toNat ((y0 : Nat) : Int))).1 1) then (T3 (bif b then (T3 (rI ((y0 : Nat) : Int) (idxL (noteP b o) qu.1))) else (k1uw07m y0 qu o b))) else (T2 (k1uw07m y0 qu o b)))))) else (True ∧ (rI (-1) (idxL (noteP b o) qu.1)))))))) (by kernel_rfl) ?_
  unfold k1uw07m k0uw07m T2 T3 T4 T5
  simp only [SI2A, eq_self]
  have hm : List.length qu.1 ≤ maxLen := hwf.1.1.1
  repeat' (with_reducible first | exact trivial | apply And.intro | intro _)
  all_goals first
    | omega
    | (with_reducible assumption)
    | exact ⟨0, ⟨Nat.zero_le _, allN_zero⟩, rfl⟩
    | (rename_i y hy h1 h2 h3; exact (idxL_nth (t := tyNote) (p := noteP b o) (Int.ofNat_lt.1 h1) hy.2 (ntT1 h2 h3)).symm)
    | (rename_i y hy h1 h2 h3 h4; exact (idxL_nth (t := tyNote) (p := noteP b o) (Int.ofNat_lt.1 h1) hy.2 (ntT2 h2 h4)).symm)
    | (rename_i y hy h1 h2 h3 h4; exact ⟨y + 1, ⟨by omega, allN_step hy.2 (ntF1 h2 h3)⟩, by omega, wrapN (by omega)⟩)
    | (rename_i y hy h1 h2 h3 h4; exact ⟨y + 1, ⟨by omega, allN_step hy.2 (ntF2 h2 h4)⟩, by omega, wrapN (by omega)⟩)
    | (rename_i y hy hge; obtain rfl : y = List.length qu.1 := (by omega); exact (idxL_nth_none (t := tyNote) hy.2).symm)
def e_s_FirstNote : Entry Tryz.prog := ⟨58, [.s tyQueue, .v tyBool, .v tyBool], fun x => True, fun x => .c (.int .i64 (idxL (noteP x.2.1 x.2.2.1) x.1.1)), fun _ => [], fun x hx => b_s_FirstNote x.1 x.2.1 x.2.2.1, Tryz.call58⟩
def k0cmu4p (s : GSession) : Prop := (T3 ((True ∧ true = true) ∧ (T4 (rB (geI (idxL (noteP (mayTell s) true) s.2.2.2.2.2.2.2.2.1.1) 0) (pendB s)))))
theorem b_i_Pending (s : GSession) : BCalls Tryz.prog 36 [.ag (cellsOf tySession s)] (.c (.bool (pendB s))) [] := by
  refine bc0 [e_i_MayTell, e_i_FirstNote] [] [] [] L0 Tryz.func36 (fun hwf => ?_)
  refine Eq.mpr (β := (T3 ((True ∧ true = true) ∧ (T4 (bif s.1 then (T4 (bif s.2.2.2.2.2.2.2.2.1.2.2 then (T5 (rB true (pendB s))) else (T2 (bif mayTell s then (T6 (bif s.2.2.2.2.2.2.2.2.1.2.1 then (T3 (rB true (pendB s))) else (k0cmu4p s))) else (T3 (k0cmu4p s)))))) else (T2 (rB false (pendB s)))))))) (by kernel_rfl) ?_
  unfold k0cmu4p T2 T3 T4 T5 T6
  simp only [SIA, eq_self]
  repeat' (first | apply And.intro | intro _)
  all_goals (first | trivial | (rw [Bool.eq_iff_iff]; simp_all [Prod.ext_iff, EQA, pendB]; done) | (simp_all [Prod.ext_iff, EQA, pendB]; done) | omega)
def e_i_Pending : Entry Tryz.prog := ⟨36, [.s tySession], fun x => True, fun x => .c (.bool (pendB x.1)), fun _ => [], fun x hx => b_i_Pending x.1, Tryz.call36⟩
def k0c5p3n (s : GSession) : Prop := (T3 ((True ∧ true = true) ∧ (T4 (rB (geI (idxL (noteP (mayTell s) true) s.2.2.2.2.2.2.2.2.1.1) 0) (pendB s)))))
theorem b_s_Pending (s : GSession) : BCalls Tryz.prog 35 [.ag (cellsOf tySession s)] (.c (.bool (pendB s))) [] := by
  refine bc0 [e_s_MayTell, e_s_FirstNote] [] [] [] L0 Tryz.func35 (fun hwf => ?_)
  refine Eq.mpr (β := (T3 ((True ∧ true = true) ∧ (T4 (bif s.1 then (T4 (bif s.2.2.2.2.2.2.2.2.1.2.2 then (T5 (rB true (pendB s))) else (T2 (bif mayTell s then (T6 (bif s.2.2.2.2.2.2.2.2.1.2.1 then (T3 (rB true (pendB s))) else (k0c5p3n s))) else (T3 (k0c5p3n s)))))) else (T2 (rB false (pendB s)))))))) (by kernel_rfl) ?_
  unfold k0c5p3n T2 T3 T4 T5 T6
  simp only [SIA, eq_self]
  repeat' (first | apply And.intro | intro _)
  all_goals (first | trivial | (rw [Bool.eq_iff_iff]; simp_all [Prod.ext_iff, EQA, pendB]; done) | (simp_all [Prod.ext_iff, EQA, pendB]; done) | omega)
def e_s_Pending : Entry Tryz.prog := ⟨35, [.s tySession], fun x => True, fun x => .c (.bool (pendB x.1)), fun _ => [], fun x hx => b_s_Pending x.1, Tryz.call35⟩
end Go.Proofs.YtdfanfpembebmaaGreatDoor
