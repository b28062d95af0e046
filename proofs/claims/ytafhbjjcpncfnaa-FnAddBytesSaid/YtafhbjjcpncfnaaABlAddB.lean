/-
  The law on bytes that come.
  No condition but what the arguments' cells hold. Printed by vcgen.py.
-/
import Derived.Test.YtafhbjjcpncfnaaABlDraw6
set_option linter.unusedSimpArgs false
set_option linter.unusedVariables false
set_option maxRecDepth 100000
set_option maxHeartbeats 4000000
namespace Go.Proofs.Ytafhbjjcpncfnaa
open Go.ChangeShapes Go.WideShapes Go.ChangeAt Go.RowKit Go.Joins Go.Deep
open GoRep (rep bulk)

def addIn (i : GIn) (s : ByteArray) : GIn × Int := if i.1.size ≤ 600 then ((i.1 ++ ByteArray.extract s 0 (min s.size (600 - i.1.size)), i.2), ((min s.size (600 - i.1.size) : Nat) : Int)) else (i, 0)
theorem b_i_AddBytes (i : GIn) (s : ByteArray) (hpre : (ByteArray.size i.1 ≤ 4000000 ∧ ByteArray.size s ≤ 4000000)) : BCalls Try.prog 8 [.ag [.str i.1, .bool i.2], .c (.str s)] (.tp [.ag [.str (addIn i s).1.1, .bool (addIn i s).1.2], .c (.int .i64 (addIn i s).2)]) [] := by
  refine bc0 [e_i_InOk] [] [] [] L0 Try.func8 (fun hwf => ?_)
  refine Eq.mpr (β := (T4 ((True ∧ true = true) ∧ (True ∧ (bif (!(inOk i)) then (T3 ((((((true = true ∧ leC (.str i.1) (.str (addIn i s).1.1)) ∧ (true = true ∧ leC (.bool i.2) (.bool (addIn i s).1.2)) ∧ True)) ∧ (true = true ∧ leC (.int .i64 0) (.int .i64 (addIn i s).2)) ∧ True)) ∧ true = true)) else (T6 (IntKind.i64 = IntKind.i64 ∧ (True ∧ ((true = true ∧ true = true) ∧ (T4 (((0 : Int) ≤ 0 ∧ (0 : Int) ≤ (if ((IntKind.wrap .i64 (600 - ((ByteArray.size i.1 : Nat) : Int))) : Int) < ((ByteArray.size s : Nat) : Int) then (IntKind.wrap .i64 (600 - ((ByteArray.size i.1 : Nat) : Int))) else ((ByteArray.size s : Nat) : Int)) ∧ ((if ((IntKind.wrap .i64 (600 - ((ByteArray.size i.1 : Nat) : Int))) : Int) < ((ByteArray.size s : Nat) : Int) then (IntKind.wrap .i64 (600 - ((ByteArray.size i.1 : Nat) : Int))) else ((ByteArray.size s : Nat) : Int)) : Int) ≤ ((ByteArray.size s : Nat) : Int)) ∧ (ByteArray.size i.1 + ByteArray.size (ByteArray.extract s (Int.toNat 0) (Int.toNat (if ((IntKind.wrap .i64 (600 - ((ByteArray.size i.1 : Nat) : Int))) : Int) < ((ByteArray.size s : Nat) : Int) then (IntKind.wrap .i64 (600 - ((ByteArray.size i.1 : Nat) : Int))) else ((ByteArray.size s : Nat) : Int)))) ≤ maxLen ∧ (T6 ((((((true = true ∧ leC (.str (i.1 ++ (ByteArray.extract s (Int.toNat 0) (Int.toNat (if ((IntKind.wrap .i64 (600 - ((ByteArray.size i.1 : Nat) : Int))) : Int) < ((ByteArray.size s : Nat) : Int) then (IntKind.wrap .i64 (600 - ((ByteArray.size i.1 : Nat) : Int))) else ((ByteArray.size s : Nat) : Int)))))) (.str (addIn i s).1.1)) ∧ (true = true ∧ leC (.bool i.2) (.bool (addIn i s).1.2)) ∧ True)) ∧ (true = true ∧ leC (.int .i64 (if ((IntKind.wrap .i64 (600 - ((ByteArray.size i.1 : Nat) : Int))) : Int) < ((ByteArray.size s : Nat) : Int) then (IntKind.wrap .i64 (600 - ((ByteArray.size i.1 : Nat) : Int))) else ((ByteArray.size s : Nat) : Int))) (.int .i64 (addIn i s).2)) ∧ True)) ∧ true = true)))))))))))))) (by kernel_rfl) ?_
  unfold T3 T4 T6
  obtain ⟨p1, p2⟩ := hpre
  by_cases h6 : ByteArray.size i.1 ≤ 600
  · have ho : inOk i = true := leI_true.2 (by omega)
    have w : IntKind.wrap .i64 (600 - ((ByteArray.size i.1 : Nat) : Int)) = ((600 - ByteArray.size i.1 : Nat) : Int) := by rw [w64i (by omega) (by omega)]; omega
    have e : addIn i s = ((i.1 ++ ByteArray.extract s 0 (min s.size (600 - i.1.size)), i.2), ((min s.size (600 - i.1.size) : Nat) : Int)) := if_pos h6
    have m1 : (if ((600 - ByteArray.size i.1 : Nat) : Int) < ((ByteArray.size s : Nat) : Int) then ((600 - ByteArray.size i.1 : Nat) : Int) else ((ByteArray.size s : Nat) : Int)) = ((min s.size (600 - i.1.size) : Nat) : Int) := by split <;> omega
    have m2 : min ((ByteArray.size s : Nat) : Int) ((600 - ByteArray.size i.1 : Nat) : Int) = ((min s.size (600 - i.1.size) : Nat) : Int) := by omega
    rw [e]
    simp only [ho, w, m1, m2, Bool.not_true]
    simp only [SI2A, eq_self]
    repeat' (with_reducible first | exact trivial | apply And.intro | intro _)
    all_goals first
      | (with_reducible trivial)
      | omega
      | (with_reducible assumption)
      | (simp only [ByteArray.size_extract]; unfold maxLen; omega)
      | (exfalso; contradiction)
      | rfl
  · have ho : inOk i = false := leI_false.2 (by omega)
    have e : addIn i s = (i, 0) := if_neg h6
    rw [e]
    simp only [ho, Bool.not_false]
    simp only [SI2A, eq_self]
    repeat' (with_reducible first | exact trivial | apply And.intro | intro _)
    all_goals first
      | (with_reducible trivial)
      | omega
      | (with_reducible assumption)
      | (exfalso; contradiction)
      | rfl
def e_i_AddBytes : Entry Try.prog := ⟨8, [.s tyIn, .v tyStr], fun x => (ByteArray.size x.1.1 ≤ 4000000 ∧ ByteArray.size x.2.1 ≤ 4000000), fun x => .tp [.ag [.str (addIn x.1 x.2.1).1.1, .bool (addIn x.1 x.2.1).1.2], .c (.int .i64 (addIn x.1 x.2.1).2)], fun _ => [], fun x hx => b_i_AddBytes x.1 x.2.1 hx, Try.call8⟩
theorem b_s_AddBytes (i : GIn) (s : ByteArray) (hpre : (ByteArray.size i.1 ≤ 4000000 ∧ ByteArray.size s ≤ 4000000)) : BCalls Try.prog 9 [.ag [.str i.1, .bool i.2], .c (.str s)] (.tp [.ag [.str (addIn i s).1.1, .bool (addIn i s).1.2], .c (.int .i64 (addIn i s).2)]) [] := by
  refine bc0 [e_s_InOk, e_s_l1Min] [] [] [] L0 Try.func9 (fun hwf => ?_)
  refine Eq.mpr (β := (T4 ((True ∧ true = true) ∧ (True ∧ (bif (!(inOk i)) then (T3 ((((((true = true ∧ leC (.str i.1) (.str (addIn i s).1.1)) ∧ (true = true ∧ leC (.bool i.2) (.bool (addIn i s).1.2)) ∧ True)) ∧ (true = true ∧ leC (.int .i64 0) (.int .i64 (addIn i s).2)) ∧ True)) ∧ true = true)) else (T6 ((True ∧ true = true) ∧ (True ∧ ((true = true ∧ true = true) ∧ (T4 (((0 : Int) ≤ 0 ∧ (0 : Int) ≤ min ((ByteArray.size s : Nat) : Int) (IntKind.wrap .i64 (600 - ((ByteArray.size i.1 : Nat) : Int))) ∧ (min ((ByteArray.size s : Nat) : Int) (IntKind.wrap .i64 (600 - ((ByteArray.size i.1 : Nat) : Int))) : Int) ≤ ((ByteArray.size s : Nat) : Int)) ∧ (ByteArray.size i.1 + ByteArray.size (ByteArray.extract s (Int.toNat 0) (Int.toNat (min ((ByteArray.size s : Nat) : Int) (IntKind.wrap .i64 (600 - ((ByteArray.size i.1 : Nat) : Int)))))) ≤ maxLen ∧ (T6 ((((((true = true ∧ leC (.str (i.1 ++ (ByteArray.extract s (Int.toNat 0) (Int.toNat (min ((ByteArray.size s : Nat) : Int) (IntKind.wrap .i64 (600 - ((ByteArray.size i.1 : Nat) : Int)))))))) (.str (addIn i s).1.1)) ∧ (true = true ∧ leC (.bool i.2) (.bool (addIn i s).1.2)) ∧ True)) ∧ (true = true ∧ leC (.int .i64 (min ((ByteArray.size s : Nat) : Int) (IntKind.wrap .i64 (600 - ((ByteArray.size i.1 : Nat) : Int))))) (.int .i64 (addIn i s).2)) ∧ True)) ∧ true = true)))))))))))))) (by kernel_rfl) ?_
  unfold T3 T4 T6
  obtain ⟨p1, p2⟩ := hpre
  by_cases h6 : ByteArray.size i.1 ≤ 600
  · have ho : inOk i = true := leI_true.2 (by omega)
    have w : IntKind.wrap .i64 (600 - ((ByteArray.size i.1 : Nat) : Int)) = ((600 - ByteArray.size i.1 : Nat) : Int) := by rw [w64i (by omega) (by omega)]; omega
    have e : addIn i s = ((i.1 ++ ByteArray.extract s 0 (min s.size (600 - i.1.size)), i.2), ((min s.size (600 - i.1.size) : Nat) : Int)) := if_pos h6
    have m1 : (if ((600 - ByteArray.size i.1 : Nat) : Int) < ((ByteArray.size s : Nat) : Int) then ((600 - ByteArray.size i.1 : Nat) : Int) else ((ByteArray.size s : Nat) : Int)) = ((min s.size (600 - i.1.size) : Nat) : Int) := by split <;> omega
    have m2 : min ((ByteArray.size s : Nat) : Int) ((600 - ByteArray.size i.1 : Nat) : Int) = ((min s.size (600 - i.1.size) : Nat) : Int) := by omega
    rw [e]
    simp only [ho, w, m1, m2, Bool.not_true]
    simp only [SI2A, eq_self]
    repeat' (with_reducible first | exact trivial | apply And.intro | intro _)
    all_goals first
      | (with_reducible trivial)
      | omega
      | (with_reducible assumption)
      | (simp only [ByteArray.size_extract]; unfold maxLen; omega)
      | (exfalso; contradiction)
      | rfl
  · have ho : inOk i = false := leI_false.2 (by omega)
    have e : addIn i s = (i, 0) := if_neg h6
    rw [e]
    simp only [ho, Bool.not_false]
    simp only [SI2A, eq_self]
    repeat' (with_reducible first | exact trivial | apply And.intro | intro _)
    all_goals first
      | (with_reducible trivial)
      | omega
      | (with_reducible assumption)
      | (exfalso; contradiction)
      | rfl
def e_s_AddBytes : Entry Try.prog := ⟨9, [.s tyIn, .v tyStr], fun x => (ByteArray.size x.1.1 ≤ 4000000 ∧ ByteArray.size x.2.1 ≤ 4000000), fun x => .tp [.ag [.str (addIn x.1 x.2.1).1.1, .bool (addIn x.1 x.2.1).1.2], .c (.int .i64 (addIn x.1 x.2.1).2)], fun _ => [], fun x hx => b_s_AddBytes x.1 x.2.1 hx, Try.call9⟩
theorem b_l_big (code : List Int) : BCalls Try.prog 6 [.c (.hs .no (.int .u8) code)] (.c (.bool (gtI ((List.length code : Nat) : Int) 1048576))) [] := by
  refine bc0 [] [] [] [] L0 Try.func6 (fun hwf => ?_)
  refine Eq.mpr (β := (True ∧ (True ∧ (True ∧ (True ∧ (True ∧ (rB (gtI ((List.length code : Nat) : Int) 1048576) (gtI ((List.length code : Nat) : Int) 1048576)))))))) (by kernel_rfl) ?_
  simp only [SI2A, eq_self]
  repeat' (with_reducible first | exact trivial | apply And.intro | intro _)
  all_goals first
    | (with_reducible trivial)
    | omega
    | (with_reducible assumption)
def e_l_big : Entry Try.prog := ⟨6, [.v (.list (.int .u8))], fun x => True, fun x => .c (.bool (gtI ((List.length x.1 : Nat) : Int) 1048576)), fun _ => [], fun x hx => b_l_big x.1, Try.call6⟩
def drawAdd (code : List Int) : GIn × ByteArray := ((in18 (newC code)).1, (text18 (in18 (newC code)).2).1)
theorem b_s_DrawAddBytes (code : List Int) : BCalls Try.prog 7 [.c (.hs .no (.int .u8) code)] (.tp [.ag [.str (drawAdd code).1.1, .bool (drawAdd code).1.2], .c (.str (drawAdd code).2)]) [] := by
  refine bc0 [e_s_l1New] [] [] [e_s_l18In, e_s_l18Text] L0 Try.func7 (fun hwf => ?_)
  refine Eq.mpr (β := (True ∧ (True ∧ (True ∧ ((True ∧ true = true) ∧ (True ∧ (True ∧ ((cu (newC code)) ∧ (True ∧ ((cu (in18 (newC code)).2) ∧ (True ∧ (True ∧ ((((((true = true ∧ leC (.str (in18 (newC code)).1.1) (.str (drawAdd code).1.1)) ∧ (true = true ∧ leC (.bool (in18 (newC code)).1.2) (.bool (drawAdd code).1.2)) ∧ True)) ∧ (true = true ∧ leC (.str (text18 (in18 (newC code)).2).1) (.str (drawAdd code).2)) ∧ True)) ∧ true = true))))))))))))) (by kernel_rfl) ?_
  haveI := newC_ok (code := code) hwf.1.1
  simp only [SIU, cuE_eq, cu_eq, eq_self]
  repeat' (with_reducible first | exact trivial | apply And.intro | apply bifI | intro _)
  all_goals first
    | (with_reducible trivial)
    | omega
    | (with_reducible infer_instance)
    | (simp only [drawAdd, cond_true, cond_false, Int.toNat_natCast, *]; done)
    | (subst_vars; simp only [drawAdd, cond_true, cond_false, Int.toNat_natCast, *]; done)
    | (simp only [drawAdd, cond_true, cond_false, *]; exact leC_refl)
def e_s_DrawAddBytes : Entry Try.prog := ⟨7, [.v (.list (.int .u8))], fun x => True, fun x => .tp [.ag [.str (drawAdd x.1).1.1, .bool (drawAdd x.1).1.2], .c (.str (drawAdd x.1).2)], fun _ => [], fun x hx => b_s_DrawAddBytes x.1, Try.call7⟩
theorem drawAdd_size (code : List Int) : (drawAdd code).1.1.size ≤ 4000000 ∧ (drawAdd code).2.size ≤ 4000000 := by
  unfold drawAdd
  exact ⟨Nat.le_trans (in18_size _) (by decide), Nat.le_trans (text18_size _) (by decide)⟩
theorem ext_none (s : ByteArray) : ByteArray.extract s 0 0 = ⟨#[]⟩ := by
  apply ByteArray.ext
  rw [ByteArray.data_extract]
  simp
theorem add_facts (i : GIn) (s : ByteArray) : (0 ≤ (addIn i s).2 ∧ (addIn i s).2 ≤ ((s.size : Nat) : Int)) ∧ (addIn i s).1.1 = i.1 ++ ByteArray.extract s (Int.toNat 0) (Int.toNat (addIn i s).2) ∧ (addIn i s).1.2 = i.2 ∧ (inOk i = true → inOk (addIn i s).1 = true) := by
  by_cases h6 : ByteArray.size i.1 ≤ 600
  · have e : addIn i s = ((i.1 ++ ByteArray.extract s 0 (min s.size (600 - i.1.size)), i.2), ((min s.size (600 - i.1.size) : Nat) : Int)) := if_pos h6
    rw [e]
    refine ⟨⟨by omega, by omega⟩, rfl, rfl, fun _ => leI_true.2 ?_⟩
    simp only [ByteArray.size_append, ByteArray.size_extract]
    omega
  · have e : addIn i s = (i, 0) := if_neg h6
    rw [e]
    refine ⟨⟨Int.le_refl _, by omega⟩, ?_, rfl, fun h => h⟩
    show i.1 = i.1 ++ ByteArray.extract s 0 0
    rw [ext_none]
    exact (ByteArray.append_empty).symm
theorem b_l_FnAddBytes (code : List Int) : BCalls Try.prog 3 [.c (.hs .no (.int .u8) code)] (.c (.bool true)) [] := by
  refine bc0 [e_l_big, e_s_DrawAddBytes, e_i_AddBytes, e_s_AddBytes, e_i_InOk] [] [] [] L0 Try.func3 (fun hwf => ?_)
  refine Eq.mpr (β := (T2 ((True ∧ true = true) ∧ (bif gtI ((List.length code : Nat) : Int) 1048576 then (True ∧ (rB true true)) else (True ∧ ((True ∧ true = true) ∧ (T8 (((ByteArray.size (drawAdd code).1.1 ≤ 4000000 ∧ ByteArray.size (drawAdd code).2 ≤ 4000000) ∧ true = true) ∧ (T8 (((ByteArray.size (drawAdd code).1.1 ≤ 4000000 ∧ ByteArray.size (drawAdd code).2 ≤ 4000000) ∧ true = true) ∧ (T10 (bif (neI (addIn (drawAdd code).1 (drawAdd code).2).2 (addIn (drawAdd code).1 (drawAdd code).2).2) then (T4 (rB false true)) else (T4 (bif (ltI (addIn (drawAdd code).1 (drawAdd code).2).2 0) then (T2 (rB false true)) else (T5 (bif (gtI (addIn (drawAdd code).1 (drawAdd code).2).2 ((ByteArray.size (drawAdd code).2 : Nat) : Int)) then (True ∧ (rB false true)) else ((true = true ∧ true = true) ∧ (T6 (((0 : Int) ≤ 0 ∧ (0 : Int) ≤ (addIn (drawAdd code).1 (drawAdd code).2).2 ∧ ((addIn (drawAdd code).1 (drawAdd code).2).2 : Int) ≤ ((ByteArray.size (drawAdd code).2 : Nat) : Int)) ∧ (ByteArray.size (drawAdd code).1.1 + ByteArray.size (ByteArray.extract (drawAdd code).2 (Int.toNat 0) (Int.toNat (addIn (drawAdd code).1 (drawAdd code).2).2)) ≤ maxLen ∧ (T2 (bif (eqS (addIn (drawAdd code).1 (drawAdd code).2).1.1 ((drawAdd code).1.1 ++ (ByteArray.extract (drawAdd code).2 (Int.toNat 0) (Int.toNat (addIn (drawAdd code).1 (drawAdd code).2).2)))) then (T4 (some TypeDesc.bool = some TypeDesc.bool ∧ (T2 (bif (eqO (addIn (drawAdd code).1 (drawAdd code).2).1.2 (drawAdd code).1.2) then (True ∧ ((True ∧ true = true) ∧ (T2 (bif (!(inOk (drawAdd code).1)) then (T3 (rB true true)) else (True ∧ ((True ∧ true = true) ∧ (T3 (rB (inOk (addIn (drawAdd code).1 (drawAdd code).2).1) true)))))))) else (T2 (rB false true)))))) else (T4 (rB false true)))))))))))))))))))))))) (by kernel_rfl) ?_
  unfold T10 T2 T3 T4 T5 T6 T8
  obtain ⟨d1, d2⟩ := drawAdd_size code
  simp only [SI2A, eq_self]
  generalize (drawAdd code).1 = i at *
  generalize (drawAdd code).2 = s at *
  obtain ⟨⟨f1, f2⟩, f3, f4, f5⟩ := add_facts i s
  repeat' (with_reducible first | exact trivial | apply And.intro | intro _)
  all_goals first
    | (with_reducible trivial)
    | omega
    | (with_reducible assumption)
    | exact ⟨d1, d2⟩
    | (exfalso; contradiction)
    | (simp only [ByteArray.size_extract]; unfold maxLen; omega)
    | exact f5 (by assumption)
end Go.Proofs.Ytafhbjjcpncfnaa
