/-
  Several texts in one.
-/
import Derived.Test.YtoigkpkafgjeaaaGreatDoorOBlFits
import Derived.Test.YtoigkpkafgjeaaaGreatDoorOBlL15d
set_option linter.unusedSimpArgs false
set_option linter.unusedVariables false
set_option maxRecDepth 100000
set_option maxHeartbeats 4000000
namespace Go.Proofs.YtoigkpkafgjeaaaGreatDoor
open Go.ChangeShapes Go.WideShapes Go.ChangeAt Go.RowKit Go.Joins Go.Deep
open GoRep (rep bulk)

theorem tx15_size (c : GCur) : (linesT (lin15 c).1).size ≤ 1048576 := by
  have h1 := lin15_len c
  have h2 := linesN_len (lin15 c).1 (lin15 c).1.length
  unfold linesT
  rw [bytesOf_size]
  omega
attribute [local irreducible] lin15 linesT linesN turned pick below body7 name2
def text15 (c : GCur) : ByteArray × GCur := ((turned (lin15 c).2 (linesT (lin15 c).1) ([(⟨#[13]⟩ : ByteArray), (⟨#[10]⟩ : ByteArray), (⟨#[13, 10]⟩ : ByteArray), (⟨#[120]⟩ : ByteArray), (⟨#[32]⟩ : ByteArray), (⟨#[42, 32, 49, 32, 69, 88, 80, 85, 78, 71, 69, 13, 10]⟩ : ByteArray)])).1, (turned (lin15 c).2 (linesT (lin15 c).1) ([(⟨#[13]⟩ : ByteArray), (⟨#[10]⟩ : ByteArray), (⟨#[13, 10]⟩ : ByteArray), (⟨#[120]⟩ : ByteArray), (⟨#[32]⟩ : ByteArray), (⟨#[42, 32, 49, 32, 69, 88, 80, 85, 78, 71, 69, 13, 10]⟩ : ByteArray)])).2)
instance text15_ok (c : GCur) [CurOk c] : CurOk (text15 c).2 := by
  unfold text15
  simp only [bif_if]
  repeat' split
  all_goals infer_instance
theorem m_s_l15Text (c : GCur) (hpre : CurOk c) : MCalls Tryz.prog 42 (argsM 0 [(.b tyCur)] (c, ())) (preM 0 [(.b tyCur)] (c, ())) (postM 0 [(.b tyCur)] ((text15 c).2, ()) ++ []) (inpM 0 [(.b tyCur)]) (.c (.str (text15 c).1)) := by
  refine mcalls_of (T := ⟨[e_s_LinesText], [], [], [e_s_l15Lines, e_s_l1Turned], none, fun _ => [], 1, [], []⟩) (L := L0) Tryz.func42 rfl rfl rfl (by kernel_rfl) (fun hwf hwm => ?_)
  refine Eq.mpr (β := (T3 ((cu c) ∧ ((List.length (lin15 c).1 ≤ 1048576 ∧ true = true ∧ true = true) ∧ (True ∧ ((((CurOk (lin15 c).2 ∧ turnPre (linesT (lin15 c).1) ([(⟨#[13]⟩ : ByteArray), (⟨#[10]⟩ : ByteArray), (⟨#[13, 10]⟩ : ByteArray), (⟨#[120]⟩ : ByteArray), (⟨#[32]⟩ : ByteArray), (⟨#[42, 32, 49, 32, 69, 88, 80, 85, 78, 71, 69, 13, 10]⟩ : ByteArray)])) ∧ (((cuE (lin15 c).2 (lin15 c).2)) ∧ (([(⟨#[13]⟩ : ByteArray), (⟨#[10]⟩ : ByteArray), (⟨#[13, 10]⟩ : ByteArray), (⟨#[120]⟩ : ByteArray), (⟨#[32]⟩ : ByteArray), (⟨#[42, 32, 49, 32, 69, 88, 80, 85, 78, 71, 69, 13, 10]⟩ : ByteArray)]) = ([(⟨#[13]⟩ : ByteArray), (⟨#[10]⟩ : ByteArray), (⟨#[13, 10]⟩ : ByteArray), (⟨#[120]⟩ : ByteArray), (⟨#[32]⟩ : ByteArray), (⟨#[42, 32, 49, 32, 69, 88, 80, 85, 78, 71, 69, 13, 10]⟩ : ByteArray)])) ∧ True)) ∧ true = true) ∧ ∀ r0 : List ByteArray, r0 = [(⟨#[13]⟩ : ByteArray), (⟨#[10]⟩ : ByteArray), (⟨#[13, 10]⟩ : ByteArray), (⟨#[120]⟩ : ByteArray), (⟨#[32]⟩ : ByteArray), (⟨#[42, 32, 49, 32, 69, 88, 80, 85, 78, 71, 69, 13, 10]⟩ : ByteArray)] → (True ∧ (((((cuE (turned (lin15 c).2 (linesT (lin15 c).1) ([(⟨#[13]⟩ : ByteArray), (⟨#[10]⟩ : ByteArray), (⟨#[13, 10]⟩ : ByteArray), (⟨#[120]⟩ : ByteArray), (⟨#[32]⟩ : ByteArray), (⟨#[42, 32, 49, 32, 69, 88, 80, 85, 78, 71, 69, 13, 10]⟩ : ByteArray)])).2 (text15 c).2)) ∧ True) ∧ (true = true ∧ leC (.str (turned (lin15 c).2 (linesT (lin15 c).1) ([(⟨#[13]⟩ : ByteArray), (⟨#[10]⟩ : ByteArray), (⟨#[13, 10]⟩ : ByteArray), (⟨#[120]⟩ : ByteArray), (⟨#[32]⟩ : ByteArray), (⟨#[42, 32, 49, 32, 69, 88, 80, 85, 78, 71, 69, 13, 10]⟩ : ByteArray)])).1) (.str (text15 c).1))) ∧ true = true)))))))) (by kernel_rfl) ?_
  unfold T3
  simp only [SIU, cuE_eq, cu_eq, eq_self]
  repeat' (with_reducible first | exact trivial | apply And.intro | apply bifI | intro _)
  all_goals first
    | (with_reducible trivial)
    | omega
    | (with_reducible infer_instance)
    | (simp only [text15, cond_true, cond_false, Int.toNat_natCast, *]; done)
    | (subst_vars; simp only [text15, cond_true, cond_false, Int.toNat_natCast, *]; done)
    | (simp only [text15, cond_true, cond_false, *]; exact leC_refl)
    | exact Nat.le_trans (lin15_len _) (by decide)
    | exact ⟨tx15_size _, by decide, by decide⟩
def e_s_l15Text : MEntry Tryz.prog := ⟨42, [(.b tyCur)], fun x => CurOk x.1, fun x => ((text15 x.1).2, ()), fun x => .c (.str (text15 x.1).1), fun _ => [], fun x hx => m_s_l15Text x.1 hx, Tryz.call42⟩
theorem text15_size (c : GCur) : (text15 c).1.size ≤ 3000000 := by
  unfold text15
  refine Nat.le_trans (turned_size ⟨tx15_size _, by decide, by decide⟩) ?_
  have := tx15_size c
  omega
attribute [local irreducible] text15
theorem mid1180 (c : GCur) : mid (IntKind.wrap .i64 (1180 + (below c 24).1)) := by
  have h := below_b (c := c) (n := 24) (by decide)
  rw [w64i (by omega) (by omega)]
  exact ⟨by omega, by omega⟩
theorem mid19990 (c : GCur) : mid (IntKind.wrap .i64 (19990 + (below c 14).1)) := by
  have h := below_b (c := c) (n := 14) (by decide)
  rw [w64i (by omega) (by omega)]
  exact ⟨by omega, by omega⟩
def out17 (c : GCur) : GOut × GCur := (bif (eqI (below (pick (text15 c).2 ([(⟨#[]⟩ : ByteArray), (⟨#[42, 32, 66, 89, 69, 13, 10]⟩ : ByteArray)])).2 12).1 0) then ((longS (Int.toNat (IntKind.wrap .i64 (1180 + (below (below (pick (text15 c).2 ([(⟨#[]⟩ : ByteArray), (⟨#[42, 32, 66, 89, 69, 13, 10]⟩ : ByteArray)])).2 12).2 24).1))), (pick (text15 c).2 ([(⟨#[]⟩ : ByteArray), (⟨#[42, 32, 66, 89, 69, 13, 10]⟩ : ByteArray)])).1), (below (below (pick (text15 c).2 ([(⟨#[]⟩ : ByteArray), (⟨#[42, 32, 66, 89, 69, 13, 10]⟩ : ByteArray)])).2 12).2 24).2) else (bif (eqI (below (pick (text15 c).2 ([(⟨#[]⟩ : ByteArray), (⟨#[42, 32, 66, 89, 69, 13, 10]⟩ : ByteArray)])).2 12).1 1) then (((text15 c).1, longS (Int.toNat (IntKind.wrap .i64 (19990 + (below (below (pick (text15 c).2 ([(⟨#[]⟩ : ByteArray), (⟨#[42, 32, 66, 89, 69, 13, 10]⟩ : ByteArray)])).2 12).2 14).1)))), (below (below (pick (text15 c).2 ([(⟨#[]⟩ : ByteArray), (⟨#[42, 32, 66, 89, 69, 13, 10]⟩ : ByteArray)])).2 12).2 14).2) else (((text15 c).1, (pick (text15 c).2 ([(⟨#[]⟩ : ByteArray), (⟨#[42, 32, 66, 89, 69, 13, 10]⟩ : ByteArray)])).1), (below (pick (text15 c).2 ([(⟨#[]⟩ : ByteArray), (⟨#[42, 32, 66, 89, 69, 13, 10]⟩ : ByteArray)])).2 12).2)))
instance out17_ok (c : GCur) [CurOk c] : CurOk (out17 c).2 := by
  unfold out17
  simp only [bif_if]
  repeat' split
  all_goals infer_instance
theorem m_s_l17Out (c : GCur) (hpre : CurOk c) : MCalls Tryz.prog 21 (argsM 0 [(.b tyCur)] (c, ())) (preM 0 [(.b tyCur)] (c, ())) (postM 0 [(.b tyCur)] ((out17 c).2, ()) ++ []) (inpM 0 [(.b tyCur)]) (.ag [.str (out17 c).1.1, .str (out17 c).1.2]) := by
  refine mcalls_of (T := ⟨[e_s_l17Long], [], [], [e_s_l15Text, e_s_l1Pick, e_s_l1Below], none, fun _ => [], 1, [], []⟩) (L := L0) Tryz.func21 rfl rfl rfl (by kernel_rfl) (fun hwf hwm => ?_)
  refine Eq.mpr (β := (T2 ((cu c) ∧ (T2 ((((CurOk (text15 c).2 ∧ 0 < List.length ([(⟨#[]⟩ : ByteArray), (⟨#[42, 32, 66, 89, 69, 13, 10]⟩ : ByteArray)])) ∧ (((cuE (text15 c).2 (text15 c).2)) ∧ (([(⟨#[]⟩ : ByteArray), (⟨#[42, 32, 66, 89, 69, 13, 10]⟩ : ByteArray)]) = ([(⟨#[]⟩ : ByteArray), (⟨#[42, 32, 66, 89, 69, 13, 10]⟩ : ByteArray)])) ∧ True)) ∧ true = true) ∧ ∀ r0 : List ByteArray, r0 = [(⟨#[]⟩ : ByteArray), (⟨#[42, 32, 66, 89, 69, 13, 10]⟩ : ByteArray)] → (T4 ((cu (pick (text15 c).2 ([(⟨#[]⟩ : ByteArray), (⟨#[42, 32, 66, 89, 69, 13, 10]⟩ : ByteArray)])).2) ∧ (T2 (bif (eqI (below (pick (text15 c).2 ([(⟨#[]⟩ : ByteArray), (⟨#[42, 32, 66, 89, 69, 13, 10]⟩ : ByteArray)])).2 12).1 0) then (True ∧ ((cu (below (pick (text15 c).2 ([(⟨#[]⟩ : ByteArray), (⟨#[42, 32, 66, 89, 69, 13, 10]⟩ : ByteArray)])).2 12).2) ∧ (True ∧ ((mid (IntKind.wrap .i64 (1180 + (below (below (pick (text15 c).2 ([(⟨#[]⟩ : ByteArray), (⟨#[42, 32, 66, 89, 69, 13, 10]⟩ : ByteArray)])).2 12).2 24).1)) ∧ true = true) ∧ (T4 (((((cuE (below (below (pick (text15 c).2 ([(⟨#[]⟩ : ByteArray), (⟨#[42, 32, 66, 89, 69, 13, 10]⟩ : ByteArray)])).2 12).2 24).2 (out17 c).2)) ∧ True) ∧ (((true = true ∧ leC (.str (longS (Int.toNat (IntKind.wrap .i64 (1180 + (below (below (pick (text15 c).2 ([(⟨#[]⟩ : ByteArray), (⟨#[42, 32, 66, 89, 69, 13, 10]⟩ : ByteArray)])).2 12).2 24).1))))) (.str (out17 c).1.1)) ∧ (true = true ∧ leC (.str (pick (text15 c).2 ([(⟨#[]⟩ : ByteArray), (⟨#[42, 32, 66, 89, 69, 13, 10]⟩ : ByteArray)])).1) (.str (out17 c).1.2)) ∧ True))) ∧ true = true)))))) else (T2 (bif (eqI (below (pick (text15 c).2 ([(⟨#[]⟩ : ByteArray), (⟨#[42, 32, 66, 89, 69, 13, 10]⟩ : ByteArray)])).2 12).1 1) then (True ∧ ((cu (below (pick (text15 c).2 ([(⟨#[]⟩ : ByteArray), (⟨#[42, 32, 66, 89, 69, 13, 10]⟩ : ByteArray)])).2 12).2) ∧ (True ∧ ((mid (IntKind.wrap .i64 (19990 + (below (below (pick (text15 c).2 ([(⟨#[]⟩ : ByteArray), (⟨#[42, 32, 66, 89, 69, 13, 10]⟩ : ByteArray)])).2 12).2 14).1)) ∧ true = true) ∧ (T4 (((((cuE (below (below (pick (text15 c).2 ([(⟨#[]⟩ : ByteArray), (⟨#[42, 32, 66, 89, 69, 13, 10]⟩ : ByteArray)])).2 12).2 14).2 (out17 c).2)) ∧ True) ∧ (((true = true ∧ leC (.str (text15 c).1) (.str (out17 c).1.1)) ∧ (true = true ∧ leC (.str (longS (Int.toNat (IntKind.wrap .i64 (19990 + (below (below (pick (text15 c).2 ([(⟨#[]⟩ : ByteArray), (⟨#[42, 32, 66, 89, 69, 13, 10]⟩ : ByteArray)])).2 12).2 14).1))))) (.str (out17 c).1.2)) ∧ True))) ∧ true = true)))))) else (T2 (((((cuE (below (pick (text15 c).2 ([(⟨#[]⟩ : ByteArray), (⟨#[42, 32, 66, 89, 69, 13, 10]⟩ : ByteArray)])).2 12).2 (out17 c).2)) ∧ True) ∧ (((true = true ∧ leC (.str (text15 c).1) (.str (out17 c).1.1)) ∧ (true = true ∧ leC (.str (pick (text15 c).2 ([(⟨#[]⟩ : ByteArray), (⟨#[42, 32, 66, 89, 69, 13, 10]⟩ : ByteArray)])).1) (.str (out17 c).1.2)) ∧ True))) ∧ true = true))))))))))))) (by kernel_rfl) ?_
  unfold T2 T4
  simp only [SIU, cuE_eq, cu_eq, eq_self]
  repeat' (with_reducible first | exact trivial | apply And.intro | apply bifI | intro _)
  all_goals first
    | (with_reducible trivial)
    | omega
    | (with_reducible infer_instance)
    | (simp only [out17, cond_true, cond_false, Int.toNat_natCast, *]; done)
    | (subst_vars; simp only [out17, cond_true, cond_false, Int.toNat_natCast, *]; done)
    | (simp only [out17, cond_true, cond_false, *]; exact leC_refl)
    | exact mid1180 _
    | exact mid19990 _
def e_s_l17Out : MEntry Tryz.prog := ⟨21, [(.b tyCur)], fun x => CurOk x.1, fun x => ((out17 x.1).2, ()), fun x => .ag [.str (out17 x.1).1.1, .str (out17 x.1).1.2], fun _ => [], fun x hx => m_s_l17Out x.1 hx, Tryz.call21⟩
theorem longS_mid {n : Int} (h : mid n) : (longS (Int.toNat n)).size ≤ 1048576 := by
  rw [longS_size]
  have := h.2
  have := h.1
  omega
theorem out17_size (c : GCur) : (out17 c).1.1.size ≤ 3000000 ∧ (out17 c).1.2.size ≤ 3000000 := by
  have h1 := text15_size c
  have hp : ∀ d : GCur, (pick d [(⟨#[]⟩ : ByteArray), (⟨#[42, 32, 66, 89, 69, 13, 10]⟩ : ByteArray)]).1.size ≤ 3000000 := fun d => Nat.le_trans (pick_size (n := 100) (by decide) (by decide)) (by decide)
  have hl1 := fun d => longS_mid (mid1180 d)
  have hl2 := fun d => longS_mid (mid19990 d)
  unfold out17
  simp only [bif_if]
  repeat' split
  all_goals first
    | exact ⟨Nat.le_trans (hl1 _) (by decide), hp _⟩
    | exact ⟨h1, Nat.le_trans (hl2 _) (by decide)⟩
    | exact ⟨h1, hp _⟩
end Go.Proofs.YtoigkpkafgjeaaaGreatDoor
set_option linter.unusedSimpArgs false
set_option linter.unusedVariables false
set_option maxRecDepth 100000
set_option maxHeartbeats 4000000
namespace Go.Proofs.YtoigkpkafgjeaaaGreatDoor
open Go.ChangeShapes Go.WideShapes Go.ChangeAt Go.RowKit Go.Joins Go.Deep
open GoRep (rep bulk)

def whole1 (c : GCur) : Int × GCur := (bif (eqI (below c 3).1 0) then ((pickInt (below c 3).2 ([0, 1, (-1), 9, 10, 999999999, 1000000000, 9223372036854775807, (-9223372036854775808)] : List Int)).1, (pickInt (below c 3).2 ([0, 1, (-1), 9, 10, 999999999, 1000000000, 9223372036854775807, (-9223372036854775808)] : List Int)).2) else (bif (eqI (below c 3).1 1) then ((IntKind.wrap .i64 ((below (below c 3).2 1000000).1 - 500000)), (below (below c 3).2 1000000).2) else ((below (below c 3).2 20).1, (below (below c 3).2 20).2)))
instance whole1_ok (c : GCur) [CurOk c] : CurOk (whole1 c).2 := by
  unfold whole1
  simp only [bif_if]
  repeat' split
  all_goals infer_instance
theorem m_s_l1Whole (c : GCur) (hpre : CurOk c) : MCalls Tryz.prog 51 (argsM 0 [(.b tyCur)] (c, ())) (preM 0 [(.b tyCur)] (c, ())) (postM 0 [(.b tyCur)] ((whole1 c).2, ()) ++ []) (inpM 0 [(.b tyCur)]) (.c (.int .i64 (whole1 c).1)) := by
  refine mcalls_of (T := ⟨[], [], [], [e_s_l1Below, e_s_l1PickInt], none, fun _ => [], 1, [], []⟩) (L := L0) Tryz.func51 rfl rfl rfl (by kernel_rfl) (fun hwf hwm => ?_)
  refine Eq.mpr (β := (T2 ((cu c) ∧ (T2 (bif (eqI (below c 3).1 0) then (T2 ((((CurOk (below c 3).2 ∧ 0 < List.length ([0, 1, (-1), 9, 10, 999999999, 1000000000, 9223372036854775807, (-9223372036854775808)] : List Int)) ∧ (((cuE (below c 3).2 (below c 3).2)) ∧ (([0, 1, (-1), 9, 10, 999999999, 1000000000, 9223372036854775807, (-9223372036854775808)] : List Int) = ([0, 1, (-1), 9, 10, 999999999, 1000000000, 9223372036854775807, (-9223372036854775808)] : List Int)) ∧ True)) ∧ true = true) ∧ ∀ r0 : List Int, r0 = ([0, 1, (-1), 9, 10, 999999999, 1000000000, 9223372036854775807, (-9223372036854775808)] : List Int) → (True ∧ (((((cuE (pickInt (below c 3).2 ([0, 1, (-1), 9, 10, 999999999, 1000000000, 9223372036854775807, (-9223372036854775808)] : List Int)).2 (whole1 c).2)) ∧ True) ∧ (true = true ∧ leC (.int .i64 (pickInt (below c 3).2 ([0, 1, (-1), 9, 10, 999999999, 1000000000, 9223372036854775807, (-9223372036854775808)] : List Int)).1) (.int .i64 (whole1 c).1))) ∧ true = true)))) else (T2 (bif (eqI (below c 3).1 1) then (True ∧ ((cu (below c 3).2) ∧ (T2 (((((cuE (below (below c 3).2 1000000).2 (whole1 c).2)) ∧ True) ∧ (true = true ∧ leC (.int .i64 (IntKind.wrap .i64 ((below (below c 3).2 1000000).1 - 500000))) (.int .i64 (whole1 c).1))) ∧ true = true)))) else (True ∧ ((cu (below c 3).2) ∧ (True ∧ (((((cuE (below (below c 3).2 20).2 (whole1 c).2)) ∧ True) ∧ (true = true ∧ leC (.int .i64 (below (below c 3).2 20).1) (.int .i64 (whole1 c).1))) ∧ true = true))))))))))) (by kernel_rfl) ?_
  unfold T2
  simp only [SIU, cuE_eq, cu_eq, eq_self]
  repeat' (with_reducible first | exact trivial | apply And.intro | apply bifI | intro _)
  all_goals first
    | (with_reducible trivial)
    | omega
    | (with_reducible infer_instance)
    | (simp only [whole1, cond_true, cond_false, Int.toNat_natCast, *]; done)
    | (subst_vars; simp only [whole1, cond_true, cond_false, Int.toNat_natCast, *]; done)
    | (simp only [whole1, cond_true, cond_false, *]; exact leC_refl)
def e_s_l1Whole : MEntry Tryz.prog := ⟨51, [(.b tyCur)], fun x => CurOk x.1, fun x => ((whole1 x.1).2, ()), fun x => .c (.int .i64 (whole1 x.1).1), fun _ => [], fun x hx => m_s_l1Whole x.1 hx, Tryz.call51⟩
def bits5 (c : GCur) : Int × GCur := (bif (once c 12).1 then ((pickInt (once c 12).2 ([(-1), 32, 31, 9223372036854775807, (-9223372036854775808)] : List Int)).1, (pickInt (once c 12).2 ([(-1), 32, 31, 9223372036854775807, (-9223372036854775808)] : List Int)).2) else ((below (once c 12).2 32).1, (below (once c 12).2 32).2))
instance bits5_ok (c : GCur) [CurOk c] : CurOk (bits5 c).2 := by
  unfold bits5
  simp only [bif_if]
  repeat' split
  all_goals infer_instance
theorem m_s_l5Bits (c : GCur) (hpre : CurOk c) : MCalls Tryz.prog 53 (argsM 0 [(.b tyCur)] (c, ())) (preM 0 [(.b tyCur)] (c, ())) (postM 0 [(.b tyCur)] ((bits5 c).2, ()) ++ []) (inpM 0 [(.b tyCur)]) (.c (.int .i64 (bits5 c).1)) := by
  refine mcalls_of (T := ⟨[], [], [], [e_s_l1Once, e_s_l1PickInt, e_s_l1Below], none, fun _ => [], 1, [], []⟩) (L := L0) Tryz.func53 rfl rfl rfl (by kernel_rfl) (fun hwf hwm => ?_)
  refine Eq.mpr (β := (T2 ((cu c) ∧ (bif (once c 12).1 then (T2 ((((CurOk (once c 12).2 ∧ 0 < List.length ([(-1), 32, 31, 9223372036854775807, (-9223372036854775808)] : List Int)) ∧ (((cuE (once c 12).2 (once c 12).2)) ∧ (([(-1), 32, 31, 9223372036854775807, (-9223372036854775808)] : List Int) = ([(-1), 32, 31, 9223372036854775807, (-9223372036854775808)] : List Int)) ∧ True)) ∧ true = true) ∧ ∀ r0 : List Int, r0 = ([(-1), 32, 31, 9223372036854775807, (-9223372036854775808)] : List Int) → (True ∧ (((((cuE (pickInt (once c 12).2 ([(-1), 32, 31, 9223372036854775807, (-9223372036854775808)] : List Int)).2 (bits5 c).2)) ∧ True) ∧ (true = true ∧ leC (.int .i64 (pickInt (once c 12).2 ([(-1), 32, 31, 9223372036854775807, (-9223372036854775808)] : List Int)).1) (.int .i64 (bits5 c).1))) ∧ true = true)))) else (True ∧ ((cu (once c 12).2) ∧ (True ∧ (((((cuE (below (once c 12).2 32).2 (bits5 c).2)) ∧ True) ∧ (true = true ∧ leC (.int .i64 (below (once c 12).2 32).1) (.int .i64 (bits5 c).1))) ∧ true = true)))))))) (by kernel_rfl) ?_
  unfold T2
  simp only [SIU, cuE_eq, cu_eq, eq_self]
  repeat' (with_reducible first | exact trivial | apply And.intro | apply bifI | intro _)
  all_goals first
    | (with_reducible trivial)
    | omega
    | (with_reducible infer_instance)
    | (simp only [bits5, cond_true, cond_false, Int.toNat_natCast, *]; done)
    | (subst_vars; simp only [bits5, cond_true, cond_false, Int.toNat_natCast, *]; done)
    | (simp only [bits5, cond_true, cond_false, *]; exact leC_refl)
def e_s_l5Bits : MEntry Tryz.prog := ⟨53, [(.b tyCur)], fun x => CurOk x.1, fun x => ((bits5 x.1).2, ()), fun x => .c (.int .i64 (bits5 x.1).1), fun _ => [], fun x hx => m_s_l5Bits x.1 hx, Tryz.call53⟩
def bytes1 (c : GCur) : Nat → List Int × GCur
  | 0 => ([], c)
  | k + 1 => ((bytes1 c k).1 ++ [IntKind.wrap .u8 (byteV (bytes1 c k).2)], byteN (bytes1 c k).2)
instance bytes1_ok (c : GCur) [CurOk c] : ∀ k, CurOk (bytes1 c k).2
  | 0 => by unfold bytes1; infer_instance
  | k + 1 => by have := bytes1_ok c k; unfold bytes1; infer_instance
theorem bytes1_len (c : GCur) : ∀ k, (bytes1 c k).1.length = k
  | 0 => rfl
  | k + 1 => by unfold bytes1; rw [List.length_append, bytes1_len c k]; rfl
def by3 (n : Int) : Prop := 0 ≤ n ∧ n ≤ 1000
def L_s_l1Bytes (c : GCur) (n : Int) : Nat → List AV → Mem → LoopA
  | 3, tm, M => ⟨Nat, fun y => (anyR (setA tm [(5, .c (.row 1 0)), (6, .c (.int .i64 ((y : Nat) : Int)))]) 7 12, setM M [(0, .box [.hs .no (.int .u8) (bytes1 c y).2.1, .int .i64 (bytes1 c y).2.2.1, .int .i64 (bytes1 c y).2.2.2]), (1, .row (.int .u8) (bytes1 c y).1 0 0 none)]), fun y => (y ≤ Int.toNat n), fun y => (Int.toNat n - y)⟩
  | _, _, _ => ⟨Unit, fun _ => ([], []), fun _ => False, fun _ => 0⟩
theorem m_s_l1Bytes (c : GCur) (n : Int) (hpre : (CurOk c ∧ by3 n)) : MCalls Tryz.prog 70 (argsM 0 [(.b tyCur), (.a (.v tyInt))] (c, n, ())) (preM 0 [(.b tyCur), (.a (.v tyInt))] (c, n, ())) (postM 0 [(.b tyCur), (.a (.v tyInt))] ((bytes1 c (Int.toNat n)).2, n, ()) ++ [.row (.int .u8) (bytes1 c (Int.toNat n)).1 0 0 none]) (inpM 0 [(.b tyCur), (.a (.v tyInt))]) (.c (.row 1 0)) := by
  refine mcalls_of (T := ⟨[], [], [], [e_s_l1Byte], none, fun _ => [], 1, [], []⟩) (L := (L_s_l1Bytes c n)) Tryz.func70 rfl rfl rfl (by kernel_rfl) (fun hwf hwm => ?_)
  refine Eq.mpr (β := (T4 ((∃ q : Nat, (q ≤ Int.toNat n) ∧ ((lxs [.c (.bp 0 0), .c (.int .i64 n), .tp [], .tp [], .c (.raw (.slice none 0 0)), .c (.row 1 0)] (leV (.c (.int .i64 0)) (.c (.int .i64 ((q : Nat) : Int))) ∧ TN 12 (lxs [.tp []] True))) ∧ (leB (.box [.hs .no (.int .u8) c.1, .int .i64 c.2.1, .int .i64 c.2.2]) (.box [.hs .no (.int .u8) (bytes1 c q).2.1, .int .i64 (bytes1 c q).2.2.1, .int .i64 (bytes1 c q).2.2.2]) ∧ leB (.row (.int .u8) ([] : List Int) 0 0 none) (.row (.int .u8) (bytes1 c q).1 0 0 none) ∧ True) ∧ true = true)) ∧ ∀ y0 : Nat, (y0 ≤ Int.toNat n) → (T3 (bif (ltI ((y0 : Nat) : Int) n) then (T2 ((cu (bytes1 c y0).2) ∧ (true = true ∧ (True ∧ ((True ∧ List.length (bytes1 c y0).1 + List.length ([(IntKind.wrap .u8 (byteV (bytes1 c y0).2))] : List Int) ≤ rowMax) ∧ (T4 (∃ y0' : Nat, (y0' ≤ Int.toNat n) ∧ (Int.toNat n - y0') < (Int.toNat n - y0) ∧ ((lxs [.c (.bp 0 0), .c (.int .i64 n), .tp [], .tp [], .c (.raw (.slice none 0 0)), .c (.row 1 0)] (leV (.c (.int .i64 (IntKind.wrap .i64 (((y0 : Nat) : Int) + 1)))) (.c (.int .i64 ((y0' : Nat) : Int))) ∧ TN 12 (lxs [.tp []] True))) ∧ (leB (.box [.hs .no (.int .u8) (byteN (bytes1 c y0).2).1, .int .i64 (byteN (bytes1 c y0).2).2.1, .int .i64 (byteN (bytes1 c y0).2).2.2]) (.box [.hs .no (.int .u8) (bytes1 c y0').2.1, .int .i64 (bytes1 c y0').2.2.1, .int .i64 (bytes1 c y0').2.2.2]) ∧ leB (.row (.int .u8) ((bytes1 c y0).1 ++ ([(IntKind.wrap .u8 (byteV (bytes1 c y0).2))] : List Int)) 0 0 none) (.row (.int .u8) (bytes1 c y0').1 0 0 none) ∧ True) ∧ true = true)))))))) else (T2 (((((cuE (bytes1 c y0).2 (bytes1 c (Int.toNat n)).2)) ∧ True) ∧ ((bytes1 c y0).1 = (bytes1 c (Int.toNat n)).1)) ∧ true = true))))))) (by kernel_rfl) ?_
  unfold T2 T3 T4
  obtain ⟨hc, hn⟩ := hpre
  have hl := bytes1_len c
  simp only [cuE_eq, cu_eq, leB_cur, leB_rowU8, SI2A, eq_self]
  obtain ⟨hn0, hn1⟩ := hn
  repeat' (with_reducible first | exact trivial | apply And.intro | intro _)
  all_goals first
    | (with_reducible trivial)
    | omega
    | (with_reducible assumption)
    | infer_instance
    | exact ⟨0, Nat.zero_le _, rfl, rfl, Eq.mpr leB_refl trivial⟩
    | exact ⟨0, Nat.zero_le _, rfl, rfl, rfl⟩
    | (rw [hl]; simp only [List.length_singleton]; unfold rowMax; omega)
    | (rename_i y hy hlt; exact ⟨y + 1, by omega, by omega, wrapN (by unfold maxLen; omega), rfl, Eq.mpr leB_refl trivial⟩)
    | (rename_i y hy hlt; exact ⟨y + 1, by omega, by omega, wrapN (by unfold maxLen; omega), rfl, rfl⟩)
    | (rename_i y hy hge; obtain rfl : y = Int.toNat n := by omega
       rfl)
def e_s_l1Bytes : MEntry Tryz.prog := ⟨70, [(.b tyCur), (.a (.v tyInt))], fun x => (CurOk x.1 ∧ by3 x.2.1), fun x => ((bytes1 x.1 (Int.toNat x.2.1)).2, x.2.1, ()), fun x => .c (.row 1 0), fun x => [.row (.int .u8) (bytes1 x.1 (Int.toNat x.2.1)).1 0 0 none], fun x hx => m_s_l1Bytes x.1 x.2.1 hx, Tryz.call70⟩
theorem any2_b (c : GCur) : by3 (below c 4).1 := by
  have h := below_b (c := c) (n := 4) (by decide)
  exact ⟨h.1, by omega⟩
theorem any2_l (c d : GCur) : (bytes1 d (Int.toNat (below c 4).1)).1.length ≤ 1000 := by
  have h := below_b (c := c) (n := 4) (by decide)
  rw [bytes1_len]
  omega
theorem any2_s (c d : GCur) : (bytesOf (bytes1 d (Int.toNat (below c 4).1)).1).size ≤ 1000 := by
  have h := below_b (c := c) (n := 4) (by decide)
  rw [bytesOf_size, bytes1_len]
  omega
def any2 (c : GCur) : ByteArray × GCur := (bif (eqI (below c 4).1 0) then ((pick (below c 4).2 ([(⟨#[]⟩ : ByteArray), (⟨#[47]⟩ : ByteArray), (⟨#[97, 47]⟩ : ByteArray), (⟨#[47, 97]⟩ : ByteArray), (⟨#[97, 47, 47, 98]⟩ : ByteArray), (⟨#[65]⟩ : ByteArray), (⟨#[97, 98, 99, 100, 101, 102, 103, 104, 105, 106, 107, 108]⟩ : ByteArray), (⟨#[97, 98, 99, 100, 101, 102, 103, 104, 105, 106, 107, 108, 109]⟩ : ByteArray), (⟨#[97, 32, 98]⟩ : ByteArray), (⟨#[97, 34, 98]⟩ : ByteArray), (⟨#[92]⟩ : ByteArray), (⟨#[120, 40, 121]⟩ : ByteArray), (⟨#[0]⟩ : ByteArray), (⟨#[49, 50, 51, 52, 53, 54, 55, 56, 57, 48, 49, 50, 51, 52, 53, 54, 55, 56, 57, 48, 49, 50, 51, 52, 53, 54, 55, 56, 57, 48, 49, 50, 51, 52, 53, 54, 55, 56, 57, 48]⟩ : ByteArray), (⟨#[49, 50, 51, 52, 53, 54, 55, 56, 57, 48, 49, 50, 51, 52, 53, 54, 55, 56, 57, 48, 49, 50, 51, 52, 53, 54, 55, 56, 57, 48, 49, 50, 51, 52, 53, 54, 55, 56, 57, 48, 49]⟩ : ByteArray), (⟨#[127]⟩ : ByteArray), (⟨#[126]⟩ : ByteArray)])).1, (pick (below c 4).2 ([(⟨#[]⟩ : ByteArray), (⟨#[47]⟩ : ByteArray), (⟨#[97, 47]⟩ : ByteArray), (⟨#[47, 97]⟩ : ByteArray), (⟨#[97, 47, 47, 98]⟩ : ByteArray), (⟨#[65]⟩ : ByteArray), (⟨#[97, 98, 99, 100, 101, 102, 103, 104, 105, 106, 107, 108]⟩ : ByteArray), (⟨#[97, 98, 99, 100, 101, 102, 103, 104, 105, 106, 107, 108, 109]⟩ : ByteArray), (⟨#[97, 32, 98]⟩ : ByteArray), (⟨#[97, 34, 98]⟩ : ByteArray), (⟨#[92]⟩ : ByteArray), (⟨#[120, 40, 121]⟩ : ByteArray), (⟨#[0]⟩ : ByteArray), (⟨#[49, 50, 51, 52, 53, 54, 55, 56, 57, 48, 49, 50, 51, 52, 53, 54, 55, 56, 57, 48, 49, 50, 51, 52, 53, 54, 55, 56, 57, 48, 49, 50, 51, 52, 53, 54, 55, 56, 57, 48]⟩ : ByteArray), (⟨#[49, 50, 51, 52, 53, 54, 55, 56, 57, 48, 49, 50, 51, 52, 53, 54, 55, 56, 57, 48, 49, 50, 51, 52, 53, 54, 55, 56, 57, 48, 49, 50, 51, 52, 53, 54, 55, 56, 57, 48, 49]⟩ : ByteArray), (⟨#[127]⟩ : ByteArray), (⟨#[126]⟩ : ByteArray)])).2) else (bif (eqI (below c 4).1 1) then ((bytesOf (bytes1 (below (below c 4).2 4).2 (Int.toNat (below (below c 4).2 4).1)).1), (bytes1 (below (below c 4).2 4).2 (Int.toNat (below (below c 4).2 4).1)).2) else ((name2 (below c 4).2).1, (name2 (below c 4).2).2)))
instance any2_ok (c : GCur) [CurOk c] : CurOk (any2 c).2 := by
  unfold any2
  simp only [bif_if]
  repeat' split
  all_goals infer_instance
theorem m_s_l2Any (c : GCur) (hpre : CurOk c) : MCalls Tryz.prog 54 (argsM 0 [(.b tyCur)] (c, ())) (preM 0 [(.b tyCur)] (c, ())) (postM 0 [(.b tyCur)] ((any2 c).2, ()) ++ []) (inpM 0 [(.b tyCur)]) (.c (.str (any2 c).1)) := by
  refine mcalls_of (T := ⟨[], [], [], [e_s_l1Below, e_s_l1Pick, e_s_l1Bytes, e_s_l2Name], none, fun _ => [], 1, [], []⟩) (L := L0) Tryz.func54 rfl rfl rfl (by kernel_rfl) (fun hwf hwm => ?_)
  refine Eq.mpr (β := (T2 ((cu c) ∧ (T2 (bif (eqI (below c 4).1 0) then (T2 ((((CurOk (below c 4).2 ∧ 0 < List.length ([(⟨#[]⟩ : ByteArray), (⟨#[47]⟩ : ByteArray), (⟨#[97, 47]⟩ : ByteArray), (⟨#[47, 97]⟩ : ByteArray), (⟨#[97, 47, 47, 98]⟩ : ByteArray), (⟨#[65]⟩ : ByteArray), (⟨#[97, 98, 99, 100, 101, 102, 103, 104, 105, 106, 107, 108]⟩ : ByteArray), (⟨#[97, 98, 99, 100, 101, 102, 103, 104, 105, 106, 107, 108, 109]⟩ : ByteArray), (⟨#[97, 32, 98]⟩ : ByteArray), (⟨#[97, 34, 98]⟩ : ByteArray), (⟨#[92]⟩ : ByteArray), (⟨#[120, 40, 121]⟩ : ByteArray), (⟨#[0]⟩ : ByteArray), (⟨#[49, 50, 51, 52, 53, 54, 55, 56, 57, 48, 49, 50, 51, 52, 53, 54, 55, 56, 57, 48, 49, 50, 51, 52, 53, 54, 55, 56, 57, 48, 49, 50, 51, 52, 53, 54, 55, 56, 57, 48]⟩ : ByteArray), (⟨#[49, 50, 51, 52, 53, 54, 55, 56, 57, 48, 49, 50, 51, 52, 53, 54, 55, 56, 57, 48, 49, 50, 51, 52, 53, 54, 55, 56, 57, 48, 49, 50, 51, 52, 53, 54, 55, 56, 57, 48, 49]⟩ : ByteArray), (⟨#[127]⟩ : ByteArray), (⟨#[126]⟩ : ByteArray)])) ∧ (((cuE (below c 4).2 (below c 4).2)) ∧ (([(⟨#[]⟩ : ByteArray), (⟨#[47]⟩ : ByteArray), (⟨#[97, 47]⟩ : ByteArray), (⟨#[47, 97]⟩ : ByteArray), (⟨#[97, 47, 47, 98]⟩ : ByteArray), (⟨#[65]⟩ : ByteArray), (⟨#[97, 98, 99, 100, 101, 102, 103, 104, 105, 106, 107, 108]⟩ : ByteArray), (⟨#[97, 98, 99, 100, 101, 102, 103, 104, 105, 106, 107, 108, 109]⟩ : ByteArray), (⟨#[97, 32, 98]⟩ : ByteArray), (⟨#[97, 34, 98]⟩ : ByteArray), (⟨#[92]⟩ : ByteArray), (⟨#[120, 40, 121]⟩ : ByteArray), (⟨#[0]⟩ : ByteArray), (⟨#[49, 50, 51, 52, 53, 54, 55, 56, 57, 48, 49, 50, 51, 52, 53, 54, 55, 56, 57, 48, 49, 50, 51, 52, 53, 54, 55, 56, 57, 48, 49, 50, 51, 52, 53, 54, 55, 56, 57, 48]⟩ : ByteArray), (⟨#[49, 50, 51, 52, 53, 54, 55, 56, 57, 48, 49, 50, 51, 52, 53, 54, 55, 56, 57, 48, 49, 50, 51, 52, 53, 54, 55, 56, 57, 48, 49, 50, 51, 52, 53, 54, 55, 56, 57, 48, 49]⟩ : ByteArray), (⟨#[127]⟩ : ByteArray), (⟨#[126]⟩ : ByteArray)]) = ([(⟨#[]⟩ : ByteArray), (⟨#[47]⟩ : ByteArray), (⟨#[97, 47]⟩ : ByteArray), (⟨#[47, 97]⟩ : ByteArray), (⟨#[97, 47, 47, 98]⟩ : ByteArray), (⟨#[65]⟩ : ByteArray), (⟨#[97, 98, 99, 100, 101, 102, 103, 104, 105, 106, 107, 108]⟩ : ByteArray), (⟨#[97, 98, 99, 100, 101, 102, 103, 104, 105, 106, 107, 108, 109]⟩ : ByteArray), (⟨#[97, 32, 98]⟩ : ByteArray), (⟨#[97, 34, 98]⟩ : ByteArray), (⟨#[92]⟩ : ByteArray), (⟨#[120, 40, 121]⟩ : ByteArray), (⟨#[0]⟩ : ByteArray), (⟨#[49, 50, 51, 52, 53, 54, 55, 56, 57, 48, 49, 50, 51, 52, 53, 54, 55, 56, 57, 48, 49, 50, 51, 52, 53, 54, 55, 56, 57, 48, 49, 50, 51, 52, 53, 54, 55, 56, 57, 48]⟩ : ByteArray), (⟨#[49, 50, 51, 52, 53, 54, 55, 56, 57, 48, 49, 50, 51, 52, 53, 54, 55, 56, 57, 48, 49, 50, 51, 52, 53, 54, 55, 56, 57, 48, 49, 50, 51, 52, 53, 54, 55, 56, 57, 48, 49]⟩ : ByteArray), (⟨#[127]⟩ : ByteArray), (⟨#[126]⟩ : ByteArray)])) ∧ True)) ∧ true = true) ∧ ∀ r0 : List ByteArray, r0 = [(⟨#[]⟩ : ByteArray), (⟨#[47]⟩ : ByteArray), (⟨#[97, 47]⟩ : ByteArray), (⟨#[47, 97]⟩ : ByteArray), (⟨#[97, 47, 47, 98]⟩ : ByteArray), (⟨#[65]⟩ : ByteArray), (⟨#[97, 98, 99, 100, 101, 102, 103, 104, 105, 106, 107, 108]⟩ : ByteArray), (⟨#[97, 98, 99, 100, 101, 102, 103, 104, 105, 106, 107, 108, 109]⟩ : ByteArray), (⟨#[97, 32, 98]⟩ : ByteArray), (⟨#[97, 34, 98]⟩ : ByteArray), (⟨#[92]⟩ : ByteArray), (⟨#[120, 40, 121]⟩ : ByteArray), (⟨#[0]⟩ : ByteArray), (⟨#[49, 50, 51, 52, 53, 54, 55, 56, 57, 48, 49, 50, 51, 52, 53, 54, 55, 56, 57, 48, 49, 50, 51, 52, 53, 54, 55, 56, 57, 48, 49, 50, 51, 52, 53, 54, 55, 56, 57, 48]⟩ : ByteArray), (⟨#[49, 50, 51, 52, 53, 54, 55, 56, 57, 48, 49, 50, 51, 52, 53, 54, 55, 56, 57, 48, 49, 50, 51, 52, 53, 54, 55, 56, 57, 48, 49, 50, 51, 52, 53, 54, 55, 56, 57, 48, 49]⟩ : ByteArray), (⟨#[127]⟩ : ByteArray), (⟨#[126]⟩ : ByteArray)] → (True ∧ (((((cuE (pick (below c 4).2 ([(⟨#[]⟩ : ByteArray), (⟨#[47]⟩ : ByteArray), (⟨#[97, 47]⟩ : ByteArray), (⟨#[47, 97]⟩ : ByteArray), (⟨#[97, 47, 47, 98]⟩ : ByteArray), (⟨#[65]⟩ : ByteArray), (⟨#[97, 98, 99, 100, 101, 102, 103, 104, 105, 106, 107, 108]⟩ : ByteArray), (⟨#[97, 98, 99, 100, 101, 102, 103, 104, 105, 106, 107, 108, 109]⟩ : ByteArray), (⟨#[97, 32, 98]⟩ : ByteArray), (⟨#[97, 34, 98]⟩ : ByteArray), (⟨#[92]⟩ : ByteArray), (⟨#[120, 40, 121]⟩ : ByteArray), (⟨#[0]⟩ : ByteArray), (⟨#[49, 50, 51, 52, 53, 54, 55, 56, 57, 48, 49, 50, 51, 52, 53, 54, 55, 56, 57, 48, 49, 50, 51, 52, 53, 54, 55, 56, 57, 48, 49, 50, 51, 52, 53, 54, 55, 56, 57, 48]⟩ : ByteArray), (⟨#[49, 50, 51, 52, 53, 54, 55, 56, 57, 48, 49, 50, 51, 52, 53, 54, 55, 56, 57, 48, 49, 50, 51, 52, 53, 54, 55, 56, 57, 48, 49, 50, 51, 52, 53, 54, 55, 56, 57, 48, 49]⟩ : ByteArray), (⟨#[127]⟩ : ByteArray), (⟨#[126]⟩ : ByteArray)])).2 (any2 c).2)) ∧ True) ∧ (true = true ∧ leC (.str (pick (below c 4).2 ([(⟨#[]⟩ : ByteArray), (⟨#[47]⟩ : ByteArray), (⟨#[97, 47]⟩ : ByteArray), (⟨#[47, 97]⟩ : ByteArray), (⟨#[97, 47, 47, 98]⟩ : ByteArray), (⟨#[65]⟩ : ByteArray), (⟨#[97, 98, 99, 100, 101, 102, 103, 104, 105, 106, 107, 108]⟩ : ByteArray), (⟨#[97, 98, 99, 100, 101, 102, 103, 104, 105, 106, 107, 108, 109]⟩ : ByteArray), (⟨#[97, 32, 98]⟩ : ByteArray), (⟨#[97, 34, 98]⟩ : ByteArray), (⟨#[92]⟩ : ByteArray), (⟨#[120, 40, 121]⟩ : ByteArray), (⟨#[0]⟩ : ByteArray), (⟨#[49, 50, 51, 52, 53, 54, 55, 56, 57, 48, 49, 50, 51, 52, 53, 54, 55, 56, 57, 48, 49, 50, 51, 52, 53, 54, 55, 56, 57, 48, 49, 50, 51, 52, 53, 54, 55, 56, 57, 48]⟩ : ByteArray), (⟨#[49, 50, 51, 52, 53, 54, 55, 56, 57, 48, 49, 50, 51, 52, 53, 54, 55, 56, 57, 48, 49, 50, 51, 52, 53, 54, 55, 56, 57, 48, 49, 50, 51, 52, 53, 54, 55, 56, 57, 48, 49]⟩ : ByteArray), (⟨#[127]⟩ : ByteArray), (⟨#[126]⟩ : ByteArray)])).1) (.str (any2 c).1))) ∧ true = true)))) else (T2 (bif (eqI (below c 4).1 1) then (T2 ((cu (below c 4).2) ∧ ((((CurOk (below (below c 4).2 4).2 ∧ by3 (below (below c 4).2 4).1) ∧ (((cuE (below (below c 4).2 4).2 (below (below c 4).2 4).2)) ∧ True)) ∧ true = true) ∧ (List.length (bytes1 (below (below c 4).2 4).2 (Int.toNat (below (below c 4).2 4).1)).1 ≤ maxLen ∧ (True ∧ (((((cuE (bytes1 (below (below c 4).2 4).2 (Int.toNat (below (below c 4).2 4).1)).2 (any2 c).2)) ∧ True) ∧ (true = true ∧ leC (.str (bytesOf (bytes1 (below (below c 4).2 4).2 (Int.toNat (below (below c 4).2 4).1)).1)) (.str (any2 c).1))) ∧ true = true)))))) else (True ∧ ((cu (below c 4).2) ∧ (True ∧ (((((cuE (name2 (below c 4).2).2 (any2 c).2)) ∧ True) ∧ (true = true ∧ leC (.str (name2 (below c 4).2).1) (.str (any2 c).1))) ∧ true = true))))))))))) (by kernel_rfl) ?_
  unfold T2
  simp only [SIU, cuE_eq, cu_eq, eq_self]
  repeat' (with_reducible first | exact trivial | apply And.intro | apply bifI | intro _)
  all_goals first
    | (with_reducible trivial)
    | omega
    | (with_reducible infer_instance)
    | (simp only [any2, cond_true, cond_false, Int.toNat_natCast, *]; done)
    | (subst_vars; simp only [any2, cond_true, cond_false, Int.toNat_natCast, *]; done)
    | (simp only [any2, cond_true, cond_false, *]; exact leC_refl)
    | exact any2_b _
    | exact Nat.le_trans (any2_l _ _) (by decide)
    | exact Nat.le_trans (any2_s _ _) (by decide)
def e_s_l2Any : MEntry Tryz.prog := ⟨54, [(.b tyCur)], fun x => CurOk x.1, fun x => ((any2 x.1).2, ()), fun x => .c (.str (any2 x.1).1), fun _ => [], fun x hx => m_s_l2Any x.1 hx, Tryz.call54⟩
attribute [local irreducible] right14 whole1 bits5 any2 out17
def bent14 (c : GCur) : GCommit × GCur := (bif (eqI (below (right14 c).2 14).1 0) then (((IntKind.wrap .i64 ((below (below (right14 c).2 14).2 19).1 - 1)), (right14 c).1.2), (below (below (right14 c).2 14).2 19).2) else (bif (eqI (below (right14 c).2 14).1 1) then (((right14 c).1.1, ((whole1 (below (right14 c).2 14).2).1, (right14 c).1.2.2)), (whole1 (below (right14 c).2 14).2).2) else (bif (eqI (below (right14 c).2 14).1 2) then (((right14 c).1.1, ((right14 c).1.2.1, ((pickInt (below (right14 c).2 14).2 ([0, 1, 999999999, 1000000000, (-1)] : List Int)).1, (right14 c).1.2.2.2))), (pickInt (below (right14 c).2 14).2 ([0, 1, 999999999, 1000000000, (-1)] : List Int)).2) else (bif (eqI (below (right14 c).2 14).1 3) then (((right14 c).1.1, ((right14 c).1.2.1, ((right14 c).1.2.2.1, ((bits5 (below (right14 c).2 14).2).1, (right14 c).1.2.2.2.2)))), (bits5 (below (right14 c).2 14).2).2) else (bif (eqI (below (right14 c).2 14).1 4) then (((right14 c).1.1, ((right14 c).1.2.1, ((right14 c).1.2.2.1, ((right14 c).1.2.2.2.1, ((any2 (below (right14 c).2 14).2).1, (right14 c).1.2.2.2.2.2))))), (any2 (below (right14 c).2 14).2).2) else (bif (eqI (below (right14 c).2 14).1 5) then (((right14 c).1.1, ((right14 c).1.2.1, ((right14 c).1.2.2.1, ((right14 c).1.2.2.2.1, ((right14 c).1.2.2.2.2.1, (pick (below (right14 c).2 14).2 ([(⟨#[120]⟩ : ByteArray), (⟨#[49, 50, 51, 52, 53, 54, 55, 56, 57, 48, 49, 50, 51, 52, 53, 54, 55, 56, 57, 48, 49, 50, 51, 52, 53, 54, 55, 56, 57, 48, 49, 50, 51, 52, 53, 54, 55, 56, 57, 48, 49]⟩ : ByteArray)])).1))))), (pick (below (right14 c).2 14).2 ([(⟨#[120]⟩ : ByteArray), (⟨#[49, 50, 51, 52, 53, 54, 55, 56, 57, 48, 49, 50, 51, 52, 53, 54, 55, 56, 57, 48, 49, 50, 51, 52, 53, 54, 55, 56, 57, 48, 49, 50, 51, 52, 53, 54, 55, 56, 57, 48, 49]⟩ : ByteArray)])).2) else ((right14 c).1, (below (right14 c).2 14).2)))))))
instance bent14_ok (c : GCur) [CurOk c] : CurOk (bent14 c).2 := by
  unfold bent14
  simp only [bif_if]
  repeat' split
  all_goals infer_instance
def k0c3oa4 (c : GCur) : Prop := (true = true ∧ leC (.int .i64 (right14 c).1.2.2.2.1) (.int .i64 (bent14 c).1.2.2.2.1))
def k1c3oa4 (c : GCur) : Prop := (true = true ∧ leC (.int .i64 (right14 c).1.2.2.1) (.int .i64 (bent14 c).1.2.2.1))
def k2c3oa4 (c : GCur) : Prop := (true = true ∧ leC (.str (right14 c).1.2.2.2.2.1) (.str (bent14 c).1.2.2.2.2.1))
def k3c3oa4 (c : GCur) : Prop := (true = true ∧ leC (.str (right14 c).1.2.2.2.2.2) (.str (bent14 c).1.2.2.2.2.2))
def k4c3oa4 (c : GCur) : Prop := (true = true ∧ leC (.int .i64 (right14 c).1.2.1) (.int .i64 (bent14 c).1.2.1))
def k5c3oa4 (c : GCur) : Prop := (true = true ∧ leC (.int .i64 (right14 c).1.1) (.int .i64 (bent14 c).1.1))
theorem m_s_l14Bent (c : GCur) (hpre : CurOk c) : MCalls Tryz.prog 25 (argsM 0 [(.b tyCur)] (c, ())) (preM 0 [(.b tyCur)] (c, ())) (postM 0 [(.b tyCur)] ((bent14 c).2, ()) ++ []) (inpM 0 [(.b tyCur)]) (.ag [.int .i64 (bent14 c).1.1, .int .i64 (bent14 c).1.2.1, .int .i64 (bent14 c).1.2.2.1, .int .i64 (bent14 c).1.2.2.2.1, .str (bent14 c).1.2.2.2.2.1, .str (bent14 c).1.2.2.2.2.2]) := by
  refine mcalls_of (T := ⟨[], [], [], [e_s_l14Right, e_s_l1Below, e_s_l1Whole, e_s_l1PickInt, e_s_l5Bits, e_s_l2Any, e_s_l1Pick], none, fun _ => [], 1, [], []⟩) (L := L0) Tryz.func25 rfl rfl rfl (by kernel_rfl) (fun hwf hwm => ?_)
  refine Eq.mpr (β := (T2 ((cu c) ∧ (T3 ((cu (right14 c).2) ∧ (T2 (bif (eqI (below (right14 c).2 14).1 0) then (True ∧ ((cu (below (right14 c).2 14).2) ∧ (T5 (((((cuE (below (below (right14 c).2 14).2 19).2 (bent14 c).2)) ∧ True) ∧ (((true = true ∧ leC (.int .i64 (IntKind.wrap .i64 ((below (below (right14 c).2 14).2 19).1 - 1))) (.int .i64 (bent14 c).1.1)) ∧ (k4c3oa4 c) ∧ (k1c3oa4 c) ∧ (k0c3oa4 c) ∧ (k2c3oa4 c) ∧ (k3c3oa4 c) ∧ True))) ∧ true = true)))) else (T2 (bif (eqI (below (right14 c).2 14).1 1) then (True ∧ ((cu (below (right14 c).2 14).2) ∧ (T4 (((((cuE (whole1 (below (right14 c).2 14).2).2 (bent14 c).2)) ∧ True) ∧ (((k5c3oa4 c) ∧ (true = true ∧ leC (.int .i64 (whole1 (below (right14 c).2 14).2).1) (.int .i64 (bent14 c).1.2.1)) ∧ (k1c3oa4 c) ∧ (k0c3oa4 c) ∧ (k2c3oa4 c) ∧ (k3c3oa4 c) ∧ True))) ∧ true = true)))) else (T2 (bif (eqI (below (right14 c).2 14).1 2) then (T2 ((((CurOk (below (right14 c).2 14).2 ∧ 0 < List.length ([0, 1, 999999999, 1000000000, (-1)] : List Int)) ∧ (((cuE (below (right14 c).2 14).2 (below (right14 c).2 14).2)) ∧ (([0, 1, 999999999, 1000000000, (-1)] : List Int) = ([0, 1, 999999999, 1000000000, (-1)] : List Int)) ∧ True)) ∧ true = true) ∧ ∀ r0 : List Int, r0 = ([0, 1, 999999999, 1000000000, (-1)] : List Int) → (T4 (((((cuE (pickInt (below (right14 c).2 14).2 ([0, 1, 999999999, 1000000000, (-1)] : List Int)).2 (bent14 c).2)) ∧ True) ∧ (((k5c3oa4 c) ∧ (k4c3oa4 c) ∧ (true = true ∧ leC (.int .i64 (pickInt (below (right14 c).2 14).2 ([0, 1, 999999999, 1000000000, (-1)] : List Int)).1) (.int .i64 (bent14 c).1.2.2.1)) ∧ (k0c3oa4 c) ∧ (k2c3oa4 c) ∧ (k3c3oa4 c) ∧ True))) ∧ true = true)))) else (T2 (bif (eqI (below (right14 c).2 14).1 3) then (True ∧ ((cu (below (right14 c).2 14).2) ∧ (T4 (((((cuE (bits5 (below (right14 c).2 14).2).2 (bent14 c).2)) ∧ True) ∧ (((k5c3oa4 c) ∧ (k4c3oa4 c) ∧ (k1c3oa4 c) ∧ (true = true ∧ leC (.int .i64 (bits5 (below (right14 c).2 14).2).1) (.int .i64 (bent14 c).1.2.2.2.1)) ∧ (k2c3oa4 c) ∧ (k3c3oa4 c) ∧ True))) ∧ true = true)))) else (T2 (bif (eqI (below (right14 c).2 14).1 4) then (True ∧ ((cu (below (right14 c).2 14).2) ∧ (T4 (((((cuE (any2 (below (right14 c).2 14).2).2 (bent14 c).2)) ∧ True) ∧ (((k5c3oa4 c) ∧ (k4c3oa4 c) ∧ (k1c3oa4 c) ∧ (k0c3oa4 c) ∧ (true = true ∧ leC (.str (any2 (below (right14 c).2 14).2).1) (.str (bent14 c).1.2.2.2.2.1)) ∧ (k3c3oa4 c) ∧ True))) ∧ true = true)))) else (T2 (bif (eqI (below (right14 c).2 14).1 5) then (T2 ((((CurOk (below (right14 c).2 14).2 ∧ 0 < List.length ([(⟨#[120]⟩ : ByteArray), (⟨#[49, 50, 51, 52, 53, 54, 55, 56, 57, 48, 49, 50, 51, 52, 53, 54, 55, 56, 57, 48, 49, 50, 51, 52, 53, 54, 55, 56, 57, 48, 49, 50, 51, 52, 53, 54, 55, 56, 57, 48, 49]⟩ : ByteArray)])) ∧ (((cuE (below (right14 c).2 14).2 (below (right14 c).2 14).2)) ∧ (([(⟨#[120]⟩ : ByteArray), (⟨#[49, 50, 51, 52, 53, 54, 55, 56, 57, 48, 49, 50, 51, 52, 53, 54, 55, 56, 57, 48, 49, 50, 51, 52, 53, 54, 55, 56, 57, 48, 49, 50, 51, 52, 53, 54, 55, 56, 57, 48, 49]⟩ : ByteArray)]) = ([(⟨#[120]⟩ : ByteArray), (⟨#[49, 50, 51, 52, 53, 54, 55, 56, 57, 48, 49, 50, 51, 52, 53, 54, 55, 56, 57, 48, 49, 50, 51, 52, 53, 54, 55, 56, 57, 48, 49, 50, 51, 52, 53, 54, 55, 56, 57, 48, 49]⟩ : ByteArray)])) ∧ True)) ∧ true = true) ∧ ∀ r0 : List ByteArray, r0 = [(⟨#[120]⟩ : ByteArray), (⟨#[49, 50, 51, 52, 53, 54, 55, 56, 57, 48, 49, 50, 51, 52, 53, 54, 55, 56, 57, 48, 49, 50, 51, 52, 53, 54, 55, 56, 57, 48, 49, 50, 51, 52, 53, 54, 55, 56, 57, 48, 49]⟩ : ByteArray)] → (T4 (((((cuE (pick (below (right14 c).2 14).2 ([(⟨#[120]⟩ : ByteArray), (⟨#[49, 50, 51, 52, 53, 54, 55, 56, 57, 48, 49, 50, 51, 52, 53, 54, 55, 56, 57, 48, 49, 50, 51, 52, 53, 54, 55, 56, 57, 48, 49, 50, 51, 52, 53, 54, 55, 56, 57, 48, 49]⟩ : ByteArray)])).2 (bent14 c).2)) ∧ True) ∧ (((k5c3oa4 c) ∧ (k4c3oa4 c) ∧ (k1c3oa4 c) ∧ (k0c3oa4 c) ∧ (k2c3oa4 c) ∧ (true = true ∧ leC (.str (pick (below (right14 c).2 14).2 ([(⟨#[120]⟩ : ByteArray), (⟨#[49, 50, 51, 52, 53, 54, 55, 56, 57, 48, 49, 50, 51, 52, 53, 54, 55, 56, 57, 48, 49, 50, 51, 52, 53, 54, 55, 56, 57, 48, 49, 50, 51, 52, 53, 54, 55, 56, 57, 48, 49]⟩ : ByteArray)])).1) (.str (bent14 c).1.2.2.2.2.2)) ∧ True))) ∧ true = true)))) else (T2 (((((cuE (below (right14 c).2 14).2 (bent14 c).2)) ∧ True) ∧ (((k5c3oa4 c) ∧ (k4c3oa4 c) ∧ (k1c3oa4 c) ∧ (k0c3oa4 c) ∧ (k2c3oa4 c) ∧ (k3c3oa4 c) ∧ True))) ∧ true = true))))))))))))))))))) (by kernel_rfl) ?_
  unfold k5c3oa4 k4c3oa4 k3c3oa4 k2c3oa4 k1c3oa4 k0c3oa4 T2 T3 T4 T5
  simp only [SIU, cuE_eq, cu_eq, eq_self]
  repeat' (with_reducible first | exact trivial | apply And.intro | apply bifI | intro _)
  all_goals first
    | (with_reducible trivial)
    | omega
    | (with_reducible infer_instance)
    | (simp only [bent14, cond_true, cond_false, Int.toNat_natCast, *]; done)
    | (subst_vars; simp only [bent14, cond_true, cond_false, Int.toNat_natCast, *]; done)
    | (simp only [bent14, cond_true, cond_false, *]; exact leC_refl)
def e_s_l14Bent : MEntry Tryz.prog := ⟨25, [(.b tyCur)], fun x => CurOk x.1, fun x => ((bent14 x.1).2, ()), fun x => .ag [.int .i64 (bent14 x.1).1.1, .int .i64 (bent14 x.1).1.2.1, .int .i64 (bent14 x.1).1.2.2.1, .int .i64 (bent14 x.1).1.2.2.2.1, .str (bent14 x.1).1.2.2.2.2.1, .str (bent14 x.1).1.2.2.2.2.2], fun _ => [], fun x hx => m_s_l14Bent x.1 hx, Tryz.call25⟩
end Go.Proofs.YtoigkpkafgjeaaaGreatDoor
set_option linter.unusedSimpArgs false
set_option linter.unusedVariables false
set_option maxRecDepth 100000
set_option maxHeartbeats 4000000
namespace Go.Proofs.YtoigkpkafgjeaaaGreatDoor
open Go.ChangeShapes Go.WideShapes Go.ChangeAt Go.RowKit Go.Joins Go.Deep
open GoRep (rep bulk)

def rr17 (c : GCur) : Nat → List GReply × GCur
  | 0 => ([], c)
  | k + 1 => ((rr17 c k).1 ++ [(right14 (rr17 c k).2).1], (right14 (rr17 c k).2).2)
instance rr17_ok (c : GCur) [CurOk c] : ∀ k, CurOk (rr17 c k).2
  | 0 => by unfold rr17; infer_instance
  | k + 1 => by have := rr17_ok c k; unfold rr17; infer_instance
theorem rr17_len (c : GCur) : ∀ k, (rr17 c k).1.length = k
  | 0 => rfl
  | k + 1 => by unfold rr17; rw [List.length_append, rr17_len c k]; rfl
def n17 (code : List Int) : Int × GCur := below (out17 (newC code)).2 4
instance n17_ok (code : List Int) [CurOk (newC code)] : CurOk (n17 code).2 := by unfold n17; infer_instance
def r17 (code : List Int) : List GReply × GCur := rr17 (n17 code).2 (Int.toNat (n17 code).1)
def o17 (code : List Int) : Bool × GCur := once (r17 code).2 8
def draw17 (code : List Int) : GOut × List GReply := ((out17 (newC code)).1, if (o17 code).1 = true then (r17 code).1 ++ [(bent14 (o17 code).2).1] else (r17 code).1)
theorem n17_b (code : List Int) : 0 ≤ (n17 code).1 ∧ (n17 code).1 < 4 := below_b (by decide)
theorem draw17_y {code : List Int} (h : (o17 code).1 = true) : (r17 code).1 ++ [(bent14 (o17 code).2).1] = (draw17 code).2 := (if_pos h).symm
theorem draw17_n {code : List Int} (h : (o17 code).1 = false) : (r17 code).1 = (draw17 code).2 := (if_neg (by rw [h]; decide)).symm
theorem draw17_size (code : List Int) : (draw17 code).2.length ≤ 4 ∧ (draw17 code).1.1.size ≤ 3000000 ∧ (draw17 code).1.2.size ≤ 3000000 := by
  have h := n17_b code
  have hl : (r17 code).1.length ≤ 3 := by
    show (rr17 _ _).1.length ≤ 3
    rw [rr17_len]
    omega
  refine ⟨?_, out17_size _⟩
  show (if _ then _ else _ : List GReply).length ≤ 4
  split
  · rw [List.length_append, List.length_singleton]
    omega
  · omega
attribute [local irreducible] right14 bent14 out17 below once newC
def L_s_DrawFitsOut (code : List Int) : Nat → List AV → Mem → LoopA
  | 6, tm, M => ⟨Nat, fun y => (anyR (setA tm [(6, .c (.row 3 0)), (8, .c (.int .i64 ((y : Nat) : Int))), (13, .any)]) 16 10, setM M [(1, .box [.hs .no (.int .u8) (rr17 (n17 code).2 y).2.1, .int .i64 (rr17 (n17 code).2 y).2.2.1, .int .i64 (rr17 (n17 code).2 y).2.2.2]), (3, .row tyCommit (rr17 (n17 code).2 y).1 0 0 none)]), fun y => (y ≤ Int.toNat (n17 code).1), fun y => (Int.toNat (n17 code).1 - y)⟩
  | _, _, _ => ⟨Unit, fun _ => ([], []), fun _ => False, fun _ => 0⟩
def k0qe2nk (code : List Int) : Prop := (True ∧ lxs [.c (.bp 1 0), .c (.int .i64 (below (out17 (newC code)).2 4).1)] (TN 10 (lxs [.tp [], .tp [], .tp [], .tp [], .tp [], .tp [], .tp [], .tp [], .tp []] True)))
def k1qe2nk (code : List Int) : Prop := ((true = true ∧ leC (.str (out17 (newC code)).1.1) (.str (draw17 code).1.1)) ∧ (true = true ∧ leC (.str (out17 (newC code)).1.2) (.str (draw17 code).1.2)) ∧ True)
theorem b_s_DrawFitsOut (code : List Int) : BCalls Tryz.prog 13 [.c (.hs .no (.int .u8) code)] (.tp [.ag [.str (draw17 code).1.1, .str (draw17 code).1.2], .c (.row 0 0)]) [.row tyCommit (draw17 code).2 0 0 none] := by
  refine bc0 [e_s_l1New] [] [] [e_s_l17Out, e_s_l1Below, e_s_l14Right, e_s_l1Once, e_s_l14Bent] (L_s_DrawFitsOut code) Tryz.func13 (fun hwf => ?_)
  refine Eq.mpr (β := (T3 ((True ∧ true = true) ∧ (T2 ((cu (newC code)) ∧ (T5 ((cu (out17 (newC code)).2) ∧ (T2 ((∃ q : Nat, (q ≤ Int.toNat (n17 code).1) ∧ ((lxs [.c (.hs .no (.int .u8) code), .tp [], .c (.bp 0 0), .c (.raw (.slice none 0 0)), .c (.bp 1 0), .c (.bp 2 0), .c (.row 3 0), .c (.int .i64 (below (out17 (newC code)).2 4).1)] (leV (.c (.int .i64 0)) (.c (.int .i64 ((q : Nat) : Int))) ∧ lxs [.c (.hs .no (.int .u8) code), .c (.bp 1 0), .c (.bp 1 0), .ag [.str (out17 (newC code)).1.1, .str (out17 (newC code)).1.2]] (k0qe2nk code))) ∧ (lb (.box [.str (⟨#[]⟩ : ByteArray), .str (⟨#[]⟩ : ByteArray)]) ∧ leB (.box [.hs .no (.int .u8) (below (out17 (newC code)).2 4).2.1, .int .i64 (below (out17 (newC code)).2 4).2.2.1, .int .i64 (below (out17 (newC code)).2 4).2.2.2]) (.box [.hs .no (.int .u8) (rr17 (n17 code).2 q).2.1, .int .i64 (rr17 (n17 code).2 q).2.2.1, .int .i64 (rr17 (n17 code).2 q).2.2.2]) ∧ lb (.box [.str (out17 (newC code)).1.1, .str (out17 (newC code)).1.2]) ∧ leB (.row tyCommit ([] : List GCommit) 0 0 none) (.row tyCommit (rr17 (n17 code).2 q).1 0 0 none) ∧ True) ∧ true = true)) ∧ ∀ y0 : Nat, (y0 ≤ Int.toNat (n17 code).1) → (T3 (bif (ltI ((y0 : Nat) : Int) (below (out17 (newC code)).2 4).1) then (T2 ((cu (rr17 (n17 code).2 y0).2) ∧ (True ∧ ((True ∧ List.length (rr17 (n17 code).2 y0).1 + List.length ([(right14 (rr17 (n17 code).2 y0).2).1]) ≤ rowMax) ∧ (T4 (∃ y0' : Nat, (y0' ≤ Int.toNat (n17 code).1) ∧ (Int.toNat (n17 code).1 - y0') < (Int.toNat (n17 code).1 - y0) ∧ ((lxs [.c (.hs .no (.int .u8) code), .tp [], .c (.bp 0 0), .c (.raw (.slice none 0 0)), .c (.bp 1 0), .c (.bp 2 0), .c (.row 3 0), .c (.int .i64 (below (out17 (newC code)).2 4).1)] (leV (.c (.int .i64 (IntKind.wrap .i64 (((y0 : Nat) : Int) + 1)))) (.c (.int .i64 ((y0' : Nat) : Int))) ∧ lxs [.c (.hs .no (.int .u8) code), .c (.bp 1 0), .c (.bp 1 0), .ag [.str (out17 (newC code)).1.1, .str (out17 (newC code)).1.2]] (k0qe2nk code))) ∧ (lb (.box [.str (⟨#[]⟩ : ByteArray), .str (⟨#[]⟩ : ByteArray)]) ∧ leB (.box [.hs .no (.int .u8) (right14 (rr17 (n17 code).2 y0).2).2.1, .int .i64 (right14 (rr17 (n17 code).2 y0).2).2.2.1, .int .i64 (right14 (rr17 (n17 code).2 y0).2).2.2.2]) (.box [.hs .no (.int .u8) (rr17 (n17 code).2 y0').2.1, .int .i64 (rr17 (n17 code).2 y0').2.2.1, .int .i64 (rr17 (n17 code).2 y0').2.2.2]) ∧ lb (.box [.str (out17 (newC code)).1.1, .str (out17 (newC code)).1.2]) ∧ leB (.row tyCommit ((rr17 (n17 code).2 y0).1 ++ [(right14 (rr17 (n17 code).2 y0).2).1]) 0 0 none) (.row tyCommit (rr17 (n17 code).2 y0').1 0 0 none) ∧ True) ∧ true = true))))))) else (True ∧ ((cu (rr17 (n17 code).2 y0).2) ∧ (bif (once (rr17 (n17 code).2 y0).2 8).1 then (T2 ((cu (once (rr17 (n17 code).2 y0).2 8).2) ∧ (True ∧ ((True ∧ List.length (rr17 (n17 code).2 y0).1 + List.length ([(bent14 (once (rr17 (n17 code).2 y0).2 8).2).1]) ≤ rowMax) ∧ (T5 (((((k1qe2nk code)) ∧ (((rr17 (n17 code).2 y0).1 ++ [(bent14 (once (rr17 (n17 code).2 y0).2 8).2).1]) = (draw17 code).2) ∧ True)) ∧ true = true)))))) else (T4 (((((k1qe2nk code)) ∧ ((rr17 (n17 code).2 y0).1 = (draw17 code).2) ∧ True)) ∧ true = true)))))))))))))))) (by kernel_rfl) ?_
  unfold k1qe2nk k0qe2nk T2 T3 T4 T5
  haveI := newC_ok (code := code) hwf.1.1
  have hn := n17_b code
  have hl := rr17_len (n17 code).2
  simp only [cuE_eq, cu_eq, leB_cur, SI2A, eq_self]
  repeat' (with_reducible first | exact trivial | apply And.intro | intro _)
  all_goals first
    | (with_reducible trivial)
    | omega
    | (with_reducible assumption)
    | infer_instance
    | exact ⟨0, Nat.zero_le _, rfl, rfl, rfl⟩
    | (rw [hl]; simp only [List.length_singleton]; unfold rowMax; omega)
    | (rename_i y hy hlt; have hn2 : (below (out17 (newC code)).2 4).1 = (n17 code).1 := rfl; exact ⟨y + 1, by omega, by omega, wrapN (by unfold maxLen; omega), rfl, rfl⟩)
    | (rename_i y hy hge ho; have hn2 : (below (out17 (newC code)).2 4).1 = (n17 code).1 := rfl; obtain rfl : y = Int.toNat (n17 code).1 := by omega
       first | exact draw17_y ho | exact draw17_n ho | rfl | (rw [hl]; simp only [List.length_singleton]; unfold rowMax; omega))
    | rfl
def e_s_DrawFitsOut : Entry Tryz.prog := ⟨13, [.v (.list (.int .u8))], fun x => True, fun x => .tp [.ag [.str (draw17 x.1).1.1, .str (draw17 x.1).1.2], .c (.row 0 0)], fun x => [.row tyCommit (draw17 x.1).2 0 0 none], fun x hx => b_s_DrawFitsOut x.1, Tryz.call13⟩
theorem b_s_DrawPutOut (code : List Int) : BCalls Tryz.prog 5 [.c (.hs .no (.int .u8) code)] (.tp [.ag [.str (draw17 code).1.1, .str (draw17 code).1.2], .c (.row 0 0)]) [.row tyCommit (draw17 code).2 0 0 none] := by
  refine bc0 [e_s_DrawFitsOut] [] [] [] L0 Tryz.func5 (fun hwf => ?_)
  refine Eq.mpr (β := (True ∧ (True ∧ (True ∧ ((True ∧ true = true) ∧ (True ∧ (True ∧ (True ∧ (True ∧ ((((((true = true ∧ leC (.str (draw17 code).1.1) (.str (draw17 code).1.1)) ∧ (true = true ∧ leC (.str (draw17 code).1.2) (.str (draw17 code).1.2)) ∧ True)) ∧ ((draw17 code).2 = (draw17 code).2) ∧ True)) ∧ true = true)))))))))) (by kernel_rfl) ?_
  simp only [cuE_eq, cu_eq, leB_cur, SI2A, eq_self]
  repeat' (with_reducible first | exact trivial | apply And.intro | intro _)
  all_goals first
    | (with_reducible trivial)
    | omega
    | (with_reducible assumption)
def e_s_DrawPutOut : Entry Tryz.prog := ⟨5, [.v (.list (.int .u8))], fun x => True, fun x => .tp [.ag [.str (draw17 x.1).1.1, .str (draw17 x.1).1.2], .c (.row 0 0)], fun x => [.row tyCommit (draw17 x.1).2 0 0 none], fun x hx => b_s_DrawPutOut x.1, Tryz.call5⟩
end Go.Proofs.YtoigkpkafgjeaaaGreatDoor
