/-
  Draws of outputs.
  No condition but what the arguments' cells hold. Printed by vcgen.py.
-/
import Derived.Test.YtoigkpkafgjeaaaBBlL15g
import Derived.Test.YtoigkpkafgjeaaaBBlL15d
set_option linter.unusedSimpArgs false
set_option linter.unusedVariables false
set_option maxRecDepth 100000
set_option maxHeartbeats 4000000
namespace Go.Proofs.Ytoigkpkafgjeaaa
open Go.ChangeShapes Go.WideShapes Go.ChangeAt Go.RowKit Go.Joins Go.Deep
open GoRep (rep bulk)

theorem tx15_size (c : GCur) : (linesT (lin15 c).1).size ≤ 1048576 := by
  have h1 := lin15_len c
  have h2 := linesN_len (lin15 c).1 (lin15 c).1.length
  unfold linesT
  rw [bytesOf_size]
  omega
attribute [local irreducible] lin15 linesT linesN turned pick below body7 name2
def text15 (c : GCur) : ByteArray × GCur := ((turned (lin15 c).2 (linesT (lin15 c).1) ([(⟨#[13]⟩ : ByteArray), (⟨#[10]⟩ : ByteArray), (⟨#[13, 10]⟩ : ByteArray), (⟨#[120]⟩ : ByteArray), (⟨#[32]⟩ : ByteArray), (⟨#[42, 32, 49, 32, 69, 88, 80, 85, 78, 71, 69, 13, 10]⟩ : ByteArray)])).1, (turned (lin15 c).2 (linesT (lin15 c).1) ([(⟨#[13]⟩ : ByteArray), (⟨#[10]⟩ : ByteArray), (⟨#[13, 10]⟩ : ByteArray), (⟨#[120]⟩ : ByteArray), (⟨#[32]⟩ : ByteArray), (⟨#[42, 32, 49, 32, 69, 88, 80, 85, 78, 71, 69, 13, 10]⟩ : ByteArray)])).2)
instance text15_ok (c : GCur) [CurOk c] : CurOk (text15 c).2 := by
  unfold text15
  simp only [bif_if]
  repeat' split
  all_goals infer_instance
theorem m_s_l15Text (c : GCur) (hpre : CurOk c) : MCalls Try.prog 57 (argsM 0 [(.b tyCur)] (c, ())) (preM 0 [(.b tyCur)] (c, ())) (postM 0 [(.b tyCur)] ((text15 c).2, ()) ++ []) (inpM 0 [(.b tyCur)]) (.c (.str (text15 c).1)) := by
  refine mcalls_of (T := ⟨[e_s_LinesText], [], [], [e_s_l15Lines, e_s_l1Turned], none, fun _ => [], 1, [], []⟩) (L := L0) Try.func57 rfl rfl rfl (by kernel_rfl) (fun hwf hwm => ?_)
  refine Eq.mpr (β := (T3 ((cu c) ∧ ((List.length (lin15 c).1 ≤ 1048576 ∧ true = true ∧ true = true) ∧ (True ∧ ((((CurOk (lin15 c).2 ∧ turnPre (linesT (lin15 c).1) ([(⟨#[13]⟩ : ByteArray), (⟨#[10]⟩ : ByteArray), (⟨#[13, 10]⟩ : ByteArray), (⟨#[120]⟩ : ByteArray), (⟨#[32]⟩ : ByteArray), (⟨#[42, 32, 49, 32, 69, 88, 80, 85, 78, 71, 69, 13, 10]⟩ : ByteArray)])) ∧ (((cuE (lin15 c).2 (lin15 c).2)) ∧ (([(⟨#[13]⟩ : ByteArray), (⟨#[10]⟩ : ByteArray), (⟨#[13, 10]⟩ : ByteArray), (⟨#[120]⟩ : ByteArray), (⟨#[32]⟩ : ByteArray), (⟨#[42, 32, 49, 32, 69, 88, 80, 85, 78, 71, 69, 13, 10]⟩ : ByteArray)]) = ([(⟨#[13]⟩ : ByteArray), (⟨#[10]⟩ : ByteArray), (⟨#[13, 10]⟩ : ByteArray), (⟨#[120]⟩ : ByteArray), (⟨#[32]⟩ : ByteArray), (⟨#[42, 32, 49, 32, 69, 88, 80, 85, 78, 71, 69, 13, 10]⟩ : ByteArray)])) ∧ True)) ∧ true = true) ∧ ∀ r0 : List ByteArray, r0 = [(⟨#[13]⟩ : ByteArray), (⟨#[10]⟩ : ByteArray), (⟨#[13, 10]⟩ : ByteArray), (⟨#[120]⟩ : ByteArray), (⟨#[32]⟩ : ByteArray), (⟨#[42, 32, 49, 32, 69, 88, 80, 85, 78, 71, 69, 13, 10]⟩ : ByteArray)] → (True ∧ (((((cuE (turned (lin15 c).2 (linesT (lin15 c).1) ([(⟨#[13]⟩ : ByteArray), (⟨#[10]⟩ : ByteArray), (⟨#[13, 10]⟩ : ByteArray), (⟨#[120]⟩ : ByteArray), (⟨#[32]⟩ : ByteArray), (⟨#[42, 32, 49, 32, 69, 88, 80, 85, 78, 71, 69, 13, 10]⟩ : ByteArray)])).2 (text15 c).2)) ∧ True) ∧ (true = true ∧ leC (.str (turned (lin15 c).2 (linesT (lin15 c).1) ([(⟨#[13]⟩ : ByteArray), (⟨#[10]⟩ : ByteArray), (⟨#[13, 10]⟩ : ByteArray), (⟨#[120]⟩ : ByteArray), (⟨#[32]⟩ : ByteArray), (⟨#[42, 32, 49, 32, 69, 88, 80, 85, 78, 71, 69, 13, 10]⟩ : ByteArray)])).1) (.str (text15 c).1))) ∧ true = true)))))))) (by kernel_rfl) ?_
  unfold T3
  simp only [SIU, cuE_eq, cu_eq, eq_self]
  repeat' (with_reducible first | exact trivial | apply And.intro | apply bifI | intro _)
  all_goals first
    | (with_reducible trivial)
    | omega
    | (with_reducible infer_instance)
    | (simp only [text15, cond_true, cond_false, Int.toNat_natCast, *]; done)
    | (subst_vars; simp only [text15, cond_true, cond_false, Int.toNat_natCast, *]; done)
    | (simp only [text15, cond_true, cond_false, *]; exact leC_refl)
    | exact Nat.le_trans (lin15_len _) (by decide)
    | exact ⟨tx15_size _, by decide, by decide⟩
def e_s_l15Text : MEntry Try.prog := ⟨57, [(.b tyCur)], fun x => CurOk x.1, fun x => ((text15 x.1).2, ()), fun x => .c (.str (text15 x.1).1), fun _ => [], fun x hx => m_s_l15Text x.1 hx, Try.call57⟩
theorem text15_size (c : GCur) : (text15 c).1.size ≤ 3000000 := by
  unfold text15
  refine Nat.le_trans (turned_size ⟨tx15_size _, by decide, by decide⟩) ?_
  have := tx15_size c
  omega
attribute [local irreducible] text15
theorem mid1180 (c : GCur) : mid (IntKind.wrap .i64 (1180 + (below c 24).1)) := by
  have h := below_b (c := c) (n := 24) (by decide)
  rw [w64i (by omega) (by omega)]
  exact ⟨by omega, by omega⟩
theorem mid19990 (c : GCur) : mid (IntKind.wrap .i64 (19990 + (below c 14).1)) := by
  have h := below_b (c := c) (n := 14) (by decide)
  rw [w64i (by omega) (by omega)]
  exact ⟨by omega, by omega⟩
def out17 (c : GCur) : GOut × GCur := (bif (eqI (below (pick (text15 c).2 ([(⟨#[]⟩ : ByteArray), (⟨#[42, 32, 66, 89, 69, 13, 10]⟩ : ByteArray)])).2 12).1 0) then ((longS (Int.toNat (IntKind.wrap .i64 (1180 + (below (below (pick (text15 c).2 ([(⟨#[]⟩ : ByteArray), (⟨#[42, 32, 66, 89, 69, 13, 10]⟩ : ByteArray)])).2 12).2 24).1))), (pick (text15 c).2 ([(⟨#[]⟩ : ByteArray), (⟨#[42, 32, 66, 89, 69, 13, 10]⟩ : ByteArray)])).1), (below (below (pick (text15 c).2 ([(⟨#[]⟩ : ByteArray), (⟨#[42, 32, 66, 89, 69, 13, 10]⟩ : ByteArray)])).2 12).2 24).2) else (bif (eqI (below (pick (text15 c).2 ([(⟨#[]⟩ : ByteArray), (⟨#[42, 32, 66, 89, 69, 13, 10]⟩ : ByteArray)])).2 12).1 1) then (((text15 c).1, longS (Int.toNat (IntKind.wrap .i64 (19990 + (below (below (pick (text15 c).2 ([(⟨#[]⟩ : ByteArray), (⟨#[42, 32, 66, 89, 69, 13, 10]⟩ : ByteArray)])).2 12).2 14).1)))), (below (below (pick (text15 c).2 ([(⟨#[]⟩ : ByteArray), (⟨#[42, 32, 66, 89, 69, 13, 10]⟩ : ByteArray)])).2 12).2 14).2) else (((text15 c).1, (pick (text15 c).2 ([(⟨#[]⟩ : ByteArray), (⟨#[42, 32, 66, 89, 69, 13, 10]⟩ : ByteArray)])).1), (below (pick (text15 c).2 ([(⟨#[]⟩ : ByteArray), (⟨#[42, 32, 66, 89, 69, 13, 10]⟩ : ByteArray)])).2 12).2)))
instance out17_ok (c : GCur) [CurOk c] : CurOk (out17 c).2 := by
  unfold out17
  simp only [bif_if]
  repeat' split
  all_goals infer_instance
theorem m_s_l17Out (c : GCur) (hpre : CurOk c) : MCalls Try.prog 21 (argsM 0 [(.b tyCur)] (c, ())) (preM 0 [(.b tyCur)] (c, ())) (postM 0 [(.b tyCur)] ((out17 c).2, ()) ++ []) (inpM 0 [(.b tyCur)]) (.ag [.str (out17 c).1.1, .str (out17 c).1.2]) := by
  refine mcalls_of (T := ⟨[e_s_l17Long], [], [], [e_s_l15Text, e_s_l1Pick, e_s_l1Below], none, fun _ => [], 1, [], []⟩) (L := L0) Try.func21 rfl rfl rfl (by kernel_rfl) (fun hwf hwm => ?_)
  refine Eq.mpr (β := (T2 ((cu c) ∧ (T2 ((((CurOk (text15 c).2 ∧ 0 < List.length ([(⟨#[]⟩ : ByteArray), (⟨#[42, 32, 66, 89, 69, 13, 10]⟩ : ByteArray)])) ∧ (((cuE (text15 c).2 (text15 c).2)) ∧ (([(⟨#[]⟩ : ByteArray), (⟨#[42, 32, 66, 89, 69, 13, 10]⟩ : ByteArray)]) = ([(⟨#[]⟩ : ByteArray), (⟨#[42, 32, 66, 89, 69, 13, 10]⟩ : ByteArray)])) ∧ True)) ∧ true = true) ∧ ∀ r0 : List ByteArray, r0 = [(⟨#[]⟩ : ByteArray), (⟨#[42, 32, 66, 89, 69, 13, 10]⟩ : ByteArray)] → (T4 ((cu (pick (text15 c).2 ([(⟨#[]⟩ : ByteArray), (⟨#[42, 32, 66, 89, 69, 13, 10]⟩ : ByteArray)])).2) ∧ (T2 (bif (eqI (below (pick (text15 c).2 ([(⟨#[]⟩ : ByteArray), (⟨#[42, 32, 66, 89, 69, 13, 10]⟩ : ByteArray)])).2 12).1 0) then (True ∧ ((cu (below (pick (text15 c).2 ([(⟨#[]⟩ : ByteArray), (⟨#[42, 32, 66, 89, 69, 13, 10]⟩ : ByteArray)])).2 12).2) ∧ (True ∧ ((mid (IntKind.wrap .i64 (1180 + (below (below (pick (text15 c).2 ([(⟨#[]⟩ : ByteArray), (⟨#[42, 32, 66, 89, 69, 13, 10]⟩ : ByteArray)])).2 12).2 24).1)) ∧ true = true) ∧ (T4 (((((cuE (below (below (pick (text15 c).2 ([(⟨#[]⟩ : ByteArray), (⟨#[42, 32, 66, 89, 69, 13, 10]⟩ : ByteArray)])).2 12).2 24).2 (out17 c).2)) ∧ True) ∧ (((true = true ∧ leC (.str (longS (Int.toNat (IntKind.wrap .i64 (1180 + (below (below (pick (text15 c).2 ([(⟨#[]⟩ : ByteArray), (⟨#[42, 32, 66, 89, 69, 13, 10]⟩ : ByteArray)])).2 12).2 24).1))))) (.str (out17 c).1.1)) ∧ (true = true ∧ leC (.str (pick (text15 c).2 ([(⟨#[]⟩ : ByteArray), (⟨#[42, 32, 66, 89, 69, 13, 10]⟩ : ByteArray)])).1) (.str (out17 c).1.2)) ∧ True))) ∧ true = true)))))) else (T2 (bif (eqI (below (pick (text15 c).2 ([(⟨#[]⟩ : ByteArray), (⟨#[42, 32, 66, 89, 69, 13, 10]⟩ : ByteArray)])).2 12).1 1) then (True ∧ ((cu (below (pick (text15 c).2 ([(⟨#[]⟩ : ByteArray), (⟨#[42, 32, 66, 89, 69, 13, 10]⟩ : ByteArray)])).2 12).2) ∧ (True ∧ ((mid (IntKind.wrap .i64 (19990 + (below (below (pick (text15 c).2 ([(⟨#[]⟩ : ByteArray), (⟨#[42, 32, 66, 89, 69, 13, 10]⟩ : ByteArray)])).2 12).2 14).1)) ∧ true = true) ∧ (T4 (((((cuE (below (below (pick (text15 c).2 ([(⟨#[]⟩ : ByteArray), (⟨#[42, 32, 66, 89, 69, 13, 10]⟩ : ByteArray)])).2 12).2 14).2 (out17 c).2)) ∧ True) ∧ (((true = true ∧ leC (.str (text15 c).1) (.str (out17 c).1.1)) ∧ (true = true ∧ leC (.str (longS (Int.toNat (IntKind.wrap .i64 (19990 + (below (below (pick (text15 c).2 ([(⟨#[]⟩ : ByteArray), (⟨#[42, 32, 66, 89, 69, 13, 10]⟩ : ByteArray)])).2 12).2 14).1))))) (.str (out17 c).1.2)) ∧ True))) ∧ true = true)))))) else (T2 (((((cuE (below (pick (text15 c).2 ([(⟨#[]⟩ : ByteArray), (⟨#[42, 32, 66, 89, 69, 13, 10]⟩ : ByteArray)])).2 12).2 (out17 c).2)) ∧ True) ∧ (((true = true ∧ leC (.str (text15 c).1) (.str (out17 c).1.1)) ∧ (true = true ∧ leC (.str (pick (text15 c).2 ([(⟨#[]⟩ : ByteArray), (⟨#[42, 32, 66, 89, 69, 13, 10]⟩ : ByteArray)])).1) (.str (out17 c).1.2)) ∧ True))) ∧ true = true))))))))))))) (by kernel_rfl) ?_
  unfold T2 T4
  simp only [SIU, cuE_eq, cu_eq, eq_self]
  repeat' (with_reducible first | exact trivial | apply And.intro | apply bifI | intro _)
  all_goals first
    | (with_reducible trivial)
    | omega
    | (with_reducible infer_instance)
    | (simp only [out17, cond_true, cond_false, Int.toNat_natCast, *]; done)
    | (subst_vars; simp only [out17, cond_true, cond_false, Int.toNat_natCast, *]; done)
    | (simp only [out17, cond_true, cond_false, *]; exact leC_refl)
    | exact mid1180 _
    | exact mid19990 _
def e_s_l17Out : MEntry Try.prog := ⟨21, [(.b tyCur)], fun x => CurOk x.1, fun x => ((out17 x.1).2, ()), fun x => .ag [.str (out17 x.1).1.1, .str (out17 x.1).1.2], fun _ => [], fun x hx => m_s_l17Out x.1 hx, Try.call21⟩
theorem longS_mid {n : Int} (h : mid n) : (longS (Int.toNat n)).size ≤ 1048576 := by
  rw [longS_size]
  have := h.2
  have := h.1
  omega
theorem out17_size (c : GCur) : (out17 c).1.1.size ≤ 3000000 ∧ (out17 c).1.2.size ≤ 3000000 := by
  have h1 := text15_size c
  have hp : ∀ d : GCur, (pick d [(⟨#[]⟩ : ByteArray), (⟨#[42, 32, 66, 89, 69, 13, 10]⟩ : ByteArray)]).1.size ≤ 3000000 := fun d => Nat.le_trans (pick_size (n := 100) (by decide) (by decide)) (by decide)
  have hl1 := fun d => longS_mid (mid1180 d)
  have hl2 := fun d => longS_mid (mid19990 d)
  unfold out17
  simp only [bif_if]
  repeat' split
  all_goals first
    | exact ⟨Nat.le_trans (hl1 _) (by decide), hp _⟩
    | exact ⟨h1, Nat.le_trans (hl2 _) (by decide)⟩
    | exact ⟨h1, hp _⟩
end Go.Proofs.Ytoigkpkafgjeaaa
