/-
  The law on bytes that come.
  No condition but what the arguments' cells hold. Printed by vcgen.py.
-/
import Derived.Test.YtbpapaponnfagaaGreatDoorLBlDraw6
set_option linter.unusedSimpArgs false
set_option linter.unusedVariables false
set_option maxRecDepth 100000
set_option maxHeartbeats 4000000
namespace Go.Proofs.YtbpapaponnfagaaGreatDoor
open Go.ChangeShapes Go.WideShapes Go.ChangeAt Go.RowKit Go.Joins Go.Deep
open GoRep (rep bulk)

def addIn (i : GIn) (s : ByteArray) : GIn × Int := if i.1.size ≤ 600 then ((i.1 ++ ByteArray.extract s 0 (min s.size (600 - i.1.size)), i.2), ((min s.size (600 - i.1.size) : Nat) : Int)) else (i, 0)
theorem b_i_AddBytes (i : GIn) (s : ByteArray) (hpre : (ByteArray.size i.1 ≤ 4000000 ∧ ByteArray.size s ≤ 4000000)) : BCalls Tryz.prog 13 [.ag [.str i.1, .bool i.2], .c (.str s)] (.tp [.ag [.str (addIn i s).1.1, .bool (addIn i s).1.2], .c (.int .i64 (addIn i s).2)]) [] := by
  refine bc0 [e_i_InOk] [] [] [] L0 Tryz.func13 (fun hwf => ?_)
  refine Eq.mpr (β := (T4 ((True ∧ true = true) ∧ (True ∧ (bif (!(inOk i)) then (T3 ((((((true = true ∧ leC (.str i.1) (.str (addIn i s).1.1)) ∧ (true = true ∧ leC (.bool i.2) (.bool (addIn i s).1.2)) ∧ True)) ∧ (true = true ∧ leC (.int .i64 0) (.int .i64 (addIn i s).2)) ∧ True)) ∧ true = true)) else (T6 (IntKind.i64 = IntKind.i64 ∧ (True ∧ ((true = true ∧ true = true) ∧ (T4 (((0 : Int) ≤ 0 ∧ (0 : Int) ≤ (if ((IntKind.wrap .i64 (600 - ((ByteArray.size i.1 : Nat) : Int))) : Int) < ((ByteArray.size s : Nat) : Int) then (IntKind.wrap .i64 (600 - ((ByteArray.size i.1 : Nat) : Int))) else ((ByteArray.size s : Nat) : Int)) ∧ ((if ((IntKind.wrap .i64 (600 - ((ByteArray.size i.1 : Nat) : Int))) : Int) < ((ByteArray.size s : Nat) : Int) then (IntKind.wrap .i64 (600 - ((ByteArray.size i.1 : Nat) : Int))) else ((ByteArray.size s : Nat) : Int)) : Int) ≤ ((ByteArray.size s : Nat) : Int)) ∧ (ByteArray.size i.1 + ByteArray.size (ByteArray.extract s (Int.toNat 0) (Int.toNat (if ((IntKind.wrap .i64 (600 - ((ByteArray.size i.1 : Nat) : Int))) : Int) < ((ByteArray.size s : Nat) : Int) then (IntKind.wrap .i64 (600 - ((ByteArray.size i.1 : Nat) : Int))) else ((ByteArray.size s : Nat) : Int)))) ≤ maxLen ∧ (T6 ((((((true = true ∧ leC (.str (i.1 ++ (ByteArray.extract s (Int.toNat 0) (Int.toNat (if ((IntKind.wrap .i64 (600 - ((ByteArray.size i.1 : Nat) : Int))) : Int) < ((ByteArray.size s : Nat) : Int) then (IntKind.wrap .i64 (600 - ((ByteArray.size i.1 : Nat) : Int))) else ((ByteArray.size s : Nat) : Int)))))) (.str (addIn i s).1.1)) ∧ (true = true ∧ leC (.bool i.2) (.bool (addIn i s).1.2)) ∧ True)) ∧ (true = true ∧ leC (.int .i64 (if ((IntKind.wrap .i64 (600 - ((ByteArray.size i.1 : Nat) : Int))) : Int) < ((ByteArray.size s : Nat) : Int) then (IntKind.wrap .i64 (600 - ((ByteArray.size i.1 : Nat) : Int))) else ((ByteArray.size s : Nat) : Int))) (.int .i64 (addIn i s).2)) ∧ True)) ∧ true = true)))))))))))))) (by kernel_rfl) ?_
  unfold T3 T4 T6
  obtain ⟨p1, p2⟩ := hpre
  by_cases h6 : ByteArray.size i.1 ≤ 600
  · have ho : inOk i = true := leI_true.2 (by omega)
    have w : IntKind.wrap .i64 (600 - ((ByteArray.size i.1 : Nat) : Int)) = ((600 - ByteArray.size i.1 : Nat) : Int) := by rw [w64i (by omega) (by omega)]; omega
    have e : addIn i s = ((i.1 ++ ByteArray.extract s 0 (min s.size (600 - i.1.size)), i.2), ((min s.size (600 - i.1.size) : Nat) : Int)) := if_pos h6
    have m1 : (if ((600 - ByteArray.size i.1 : Nat) : Int) < ((ByteArray.size s : Nat) : Int) then ((600 - ByteArray.size i.1 : Nat) : Int) else ((ByteArray.size s : Nat) : Int)) = ((min s.size (600 - i.1.size) : Nat) : Int) := by split <;> omega
    have m2 : min ((ByteArray.size s : Nat) : Int) ((600 - ByteArray.size i.1 : Nat) : Int) = ((min s.size (600 - i.1.size) : Nat) : Int) := by omega
    rw [e]
    simp only [ho, w, m1, m2, Bool.not_true]
    simp only [SI2A, eq_self]
    repeat' (with_reducible first | exact trivial | apply And.intro | intro _)
    all_goals first
      | (with_reducible trivial)
      | omega
      | (with_reducible assumption)
      | (simp only [ByteArray.size_extract]; unfold maxLen; omega)
      | (exfalso; contradiction)
      | rfl
  · have ho : inOk i = false := leI_false.2 (by omega)
    have e : addIn i s = (i, 0) := if_neg h6
    rw [e]
    simp only [ho, Bool.not_false]
    simp only [SI2A, eq_self]
    repeat' (with_reducible first | exact trivial | apply And.intro | intro _)
    all_goals first
      | (with_reducible trivial)
      | omega
      | (with_reducible assumption)
      | (exfalso; contradiction)
      | rfl
def e_i_AddBytes : Entry Tryz.prog := ⟨13, [.s tyIn, .v tyStr], fun x => (ByteArray.size x.1.1 ≤ 4000000 ∧ ByteArray.size x.2.1 ≤ 4000000), fun x => .tp [.ag [.str (addIn x.1 x.2.1).1.1, .bool (addIn x.1 x.2.1).1.2], .c (.int .i64 (addIn x.1 x.2.1).2)], fun _ => [], fun x hx => b_i_AddBytes x.1 x.2.1 hx, Tryz.call13⟩
theorem b_l_big (code : List Int) : BCalls Tryz.prog 10 [.c (.hs .no (.int .u8) code)] (.c (.bool (gtI ((List.length code : Nat) : Int) 1048576))) [] := by
  refine bc0 [] [] [] [] L0 Tryz.func10 (fun hwf => ?_)
  refine Eq.mpr (β := (True ∧ (True ∧ (True ∧ (True ∧ (True ∧ (rB (gtI ((List.length code : Nat) : Int) 1048576) (gtI ((List.length code : Nat) : Int) 1048576)))))))) (by kernel_rfl) ?_
  simp only [SI2A, eq_self]
  repeat' (with_reducible first | exact trivial | apply And.intro | intro _)
  all_goals first
    | (with_reducible trivial)
    | omega
    | (with_reducible assumption)
def e_l_big : Entry Tryz.prog := ⟨10, [.v (.list (.int .u8))], fun x => True, fun x => .c (.bool (gtI ((List.length x.1 : Nat) : Int) 1048576)), fun _ => [], fun x hx => b_l_big x.1, Tryz.call10⟩
theorem ext_none (s : ByteArray) : ByteArray.extract s 0 0 = ⟨#[]⟩ := by
  apply ByteArray.ext
  rw [ByteArray.data_extract]
  simp
end Go.Proofs.YtbpapaponnfagaaGreatDoor
