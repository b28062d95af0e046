/-
  Whether replies fit.
  No condition but what the arguments' cells hold. Printed by vcgen.py.
-/
import Derived.Test.YtklnpeckhbiloaaGreatDoorKBlLi
set_option linter.unusedSimpArgs false
set_option linter.unusedVariables false
set_option maxRecDepth 100000
set_option maxHeartbeats 4000000
namespace Go.Proofs.YtklnpeckhbiloaaGreatDoor
open Go.ChangeShapes Go.WideShapes Go.ChangeAt Go.RowKit Go.Joins Go.Deep
open GoRep (rep bulk)

def putB (o : GOut) (l : List GReply) : GOut := bif fitsB o l then (o.1 ++ linesT l, o.2) else o
theorem putB_y {o : GOut} {l : List GReply} (h : fitsB o l = true) : putB o l = (o.1 ++ linesT l, o.2) := by
  unfold putB
  rw [h]
  rfl
theorem putB_n {o : GOut} {l : List GReply} (h : fitsB o l = false) : putB o l = o := by
  unfold putB
  rw [h]
  rfl
theorem fits_size {o : GOut} {l : List GReply} (h : fitsB o l = true) : o.1.size + (linesT l).size ≤ 1200 := by
  unfold fitsB at h
  rw [Bool.and_eq_true, Bool.and_eq_true] at h
  have := leI_true.1 h.2.2
  omega
theorem out_size {o : GOut} (h : outOk o = true) : o.1.size ≤ 1200 ∧ o.2.size ≤ 20000 := by
  unfold outOk at h
  rw [Bool.and_eq_true] at h
  have h1 := leI_true.1 h.1
  have h2 := leI_true.1 h.2
  exact ⟨by omega, by omega⟩
theorem b_s_FitsOut (o : GOut) (l : List GCommit) (hpre : List.length l ≤ 1048576) : BCalls Tryz.prog 32 [.ag [.str o.1, .str o.2], .c (.hs .no tyCommit l)] (.c (.bool (fitsB o l))) [] := by
  refine bc0 [e_s_OutOk, e_s_l17Right, e_s_LinesText] [] [] [] L0 Tryz.func32 (fun hwf => ?_)
  refine Eq.mpr (β := (True ∧ (True ∧ ((true = true ∧ true = true) ∧ (True ∧ ((True ∧ true = true) ∧ (True ∧ (bif outOk o then (True ∧ ((True ∧ true = true) ∧ (True ∧ (True ∧ (bif rightR l then (True ∧ (True ∧ (True ∧ (True ∧ ((List.length l ≤ 1048576 ∧ true = true) ∧ (True ∧ (True ∧ (True ∧ (True ∧ (True ∧ (rB (leI (IntKind.wrap .i64 (((ByteArray.size o.1 : Nat) : Int) + ((ByteArray.size (linesT l) : Nat) : Int))) 1200) (fitsB o l)))))))))))) else (True ∧ (True ∧ (rB false (fitsB o l))))))))) else (True ∧ (True ∧ (True ∧ (True ∧ (rB false (fitsB o l)))))))))))))) (by kernel_rfl) ?_
  have hz := linesT_size hpre
  have hn := linesN_len l l.length
  have hs : (linesT l).size = (linesN l l.length).length := by unfold linesT; exact bytesOf_size _
  have hl : List.length l ≤ 1048576 := hpre
  unfold fitsB rightR
  simp only [SI2A, eq_self]
  repeat' (with_reducible first | exact trivial | apply And.intro | intro _)
  all_goals first
    | (with_reducible trivial)
    | omega
    | (with_reducible assumption)
    | (rename_i h1; simp only [h1, Bool.false_and]; done)
    | (rename_i h1 h2; have ho := out_size h1; rw [w64i (by omega) (by omega)]; simp only [h1, h2, Bool.true_and, Bool.not_false]; rfl)
    | (rename_i h1 h2; simp only [h1, h2, Bool.true_and, Bool.false_and, Bool.not_true]; done)
def e_s_FitsOut : Entry Tryz.prog := ⟨32, [.s tyOut, .v (.list tyCommit)], fun x => List.length x.2.1 ≤ 1048576, fun x => .c (.bool (fitsB x.1 x.2.1)), fun _ => [], fun x hx => b_s_FitsOut x.1 x.2.1 hx, Tryz.call32⟩
theorem b_s_PutOut (o : GOut) (l : List GCommit) (hpre : List.length l ≤ 1048576) : BCalls Tryz.prog 13 [.ag [.str o.1, .str o.2], .c (.hs .no tyCommit l)] (.tp [.ag [.str (putB o l).1, .str (putB o l).2], .c (.bool (fitsB o l))]) [] := by
  refine bc0 [e_s_FitsOut, e_s_LinesText] [] [] [] L0 Tryz.func13 (fun hwf => ?_)
  refine Eq.mpr (β := (T5 ((List.length l ≤ 1048576 ∧ true = true) ∧ (True ∧ (bif (!(fitsB o l)) then (T3 ((((((true = true ∧ leC (.str o.1) (.str (putB o l).1)) ∧ (true = true ∧ leC (.str o.2) (.str (putB o l).2)) ∧ True)) ∧ (true = true ∧ leC (.bool false) (.bool (fitsB o l))) ∧ True)) ∧ true = true)) else ((true = true ∧ true = true) ∧ (T3 ((List.length l ≤ 1048576 ∧ true = true) ∧ (ByteArray.size o.1 + ByteArray.size (linesT l) ≤ maxLen ∧ (T5 ((((((true = true ∧ leC (.str (o.1 ++ (linesT l))) (.str (putB o l).1)) ∧ (true = true ∧ leC (.str o.2) (.str (putB o l).2)) ∧ True)) ∧ (true = true ∧ leC (.bool true) (.bool (fitsB o l))) ∧ True)) ∧ true = true))))))))))) (by kernel_rfl) ?_
  unfold T3 T5
  have hl : List.length l ≤ 1048576 := hpre
  cases hf : fitsB o l with
  | true =>
    have hs := fits_size hf
    rw [putB_y hf]
    simp only [hf, Bool.not_true, Bool.not_false, cond_true, cond_false]
    simp only [SI2A, eq_self]
    repeat' (with_reducible first | exact trivial | apply And.intro | intro _)
    all_goals first
      | (with_reducible trivial)
      | omega
      | (with_reducible assumption)
      | (unfold maxLen; omega)
  | false =>
    rw [putB_n hf]
    simp only [hf, Bool.not_true, Bool.not_false, cond_true, cond_false]
    simp only [SI2A, eq_self]
    repeat' (with_reducible first | exact trivial | apply And.intro | intro _)
    all_goals first
      | (with_reducible trivial)
      | omega
      | (with_reducible assumption)
def e_s_PutOut : Entry Tryz.prog := ⟨13, [.s tyOut, .v (.list tyCommit)], fun x => List.length x.2.1 ≤ 1048576, fun x => .tp [.ag [.str (putB x.1 x.2.1).1, .str (putB x.1 x.2.1).2], .c (.bool (fitsB x.1 x.2.1))], fun _ => [], fun x hx => b_s_PutOut x.1 x.2.1 hx, Tryz.call13⟩
end Go.Proofs.YtklnpeckhbiloaaGreatDoor
