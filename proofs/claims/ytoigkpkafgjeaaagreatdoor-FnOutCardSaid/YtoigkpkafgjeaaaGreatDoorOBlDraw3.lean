/-
  Several texts in one.
-/
import Derived.Test.YtoigkpkafgjeaaaGreatDoorOBlDraw
import Derived.Test.YtoigkpkafgjeaaaGreatDoorOBlCmd4
import Derived.Test.YtoigkpkafgjeaaaGreatDoorOUpper
set_option linter.unusedSimpArgs false
set_option linter.unusedVariables false
set_option maxRecDepth 100000
set_option maxHeartbeats 4000000
namespace Go.Proofs.YtoigkpkafgjeaaaGreatDoor
open Go.ChangeShapes Go.WideShapes Go.ChangeAt Go.RowKit Go.Joins Go.Deep
open GoRep (rep bulk)

theorem pick_size {c : GCur} {l : List ByteArray} {n : Nat} (h0 : 0 < l.length) (h : ∀ x ∈ l, x.size ≤ n) : (pick c l).1.size ≤ n := by
  have hb := below_b (c := c) (n := ((l.length : Nat) : Int)) (by omega)
  unfold pick
  exact h _ (List.mem_of_getElem? (nthS_get (by omega)))
def name2 (c : GCur) : ByteArray × GCur := ((pick c ([(⟨#[105, 110, 98, 111, 120]⟩ : ByteArray), (⟨#[97]⟩ : ByteArray), (⟨#[97, 47, 98]⟩ : ByteArray), (⟨#[97, 98]⟩ : ByteArray), (⟨#[105, 110, 98, 111, 120, 47, 120]⟩ : ByteArray), (⟨#[97]⟩ : ByteArray), (⟨#[105, 110, 98, 111, 120]⟩ : ByteArray)])).1, (pick c ([(⟨#[105, 110, 98, 111, 120]⟩ : ByteArray), (⟨#[97]⟩ : ByteArray), (⟨#[97, 47, 98]⟩ : ByteArray), (⟨#[97, 98]⟩ : ByteArray), (⟨#[105, 110, 98, 111, 120, 47, 120]⟩ : ByteArray), (⟨#[97]⟩ : ByteArray), (⟨#[105, 110, 98, 111, 120]⟩ : ByteArray)])).2)
instance name2_ok (c : GCur) [CurOk c] : CurOk (name2 c).2 := by
  unfold name2
  simp only [bif_if]
  repeat' split
  all_goals infer_instance
theorem m_s_l2Name (c : GCur) (hpre : CurOk c) : MCalls Tryz.prog 48 (argsM 0 [(.b tyCur)] (c, ())) (preM 0 [(.b tyCur)] (c, ())) (postM 0 [(.b tyCur)] ((name2 c).2, ()) ++ []) (inpM 0 [(.b tyCur)]) (.c (.str (name2 c).1)) := by
  refine mcalls_of (T := ⟨[], [], [], [e_s_l1Pick], none, fun _ => [], 1, [], []⟩) (L := L0) Tryz.func48 rfl rfl rfl (by kernel_rfl) (fun hwf hwm => ?_)
  refine Eq.mpr (β := (T3 ((((CurOk c ∧ 0 < List.length ([(⟨#[105, 110, 98, 111, 120]⟩ : ByteArray), (⟨#[97]⟩ : ByteArray), (⟨#[97, 47, 98]⟩ : ByteArray), (⟨#[97, 98]⟩ : ByteArray), (⟨#[105, 110, 98, 111, 120, 47, 120]⟩ : ByteArray), (⟨#[97]⟩ : ByteArray), (⟨#[105, 110, 98, 111, 120]⟩ : ByteArray)])) ∧ (((cuE c c)) ∧ (([(⟨#[105, 110, 98, 111, 120]⟩ : ByteArray), (⟨#[97]⟩ : ByteArray), (⟨#[97, 47, 98]⟩ : ByteArray), (⟨#[97, 98]⟩ : ByteArray), (⟨#[105, 110, 98, 111, 120, 47, 120]⟩ : ByteArray), (⟨#[97]⟩ : ByteArray), (⟨#[105, 110, 98, 111, 120]⟩ : ByteArray)]) = ([(⟨#[105, 110, 98, 111, 120]⟩ : ByteArray), (⟨#[97]⟩ : ByteArray), (⟨#[97, 47, 98]⟩ : ByteArray), (⟨#[97, 98]⟩ : ByteArray), (⟨#[105, 110, 98, 111, 120, 47, 120]⟩ : ByteArray), (⟨#[97]⟩ : ByteArray), (⟨#[105, 110, 98, 111, 120]⟩ : ByteArray)])) ∧ True)) ∧ true = true) ∧ ∀ r0 : List ByteArray, r0 = [(⟨#[105, 110, 98, 111, 120]⟩ : ByteArray), (⟨#[97]⟩ : ByteArray), (⟨#[97, 47, 98]⟩ : ByteArray), (⟨#[97, 98]⟩ : ByteArray), (⟨#[105, 110, 98, 111, 120, 47, 120]⟩ : ByteArray), (⟨#[97]⟩ : ByteArray), (⟨#[105, 110, 98, 111, 120]⟩ : ByteArray)] → (True ∧ (((((cuE (pick c ([(⟨#[105, 110, 98, 111, 120]⟩ : ByteArray), (⟨#[97]⟩ : ByteArray), (⟨#[97, 47, 98]⟩ : ByteArray), (⟨#[97, 98]⟩ : ByteArray), (⟨#[105, 110, 98, 111, 120, 47, 120]⟩ : ByteArray), (⟨#[97]⟩ : ByteArray), (⟨#[105, 110, 98, 111, 120]⟩ : ByteArray)])).2 (name2 c).2)) ∧ True) ∧ (true = true ∧ leC (.str (pick c ([(⟨#[105, 110, 98, 111, 120]⟩ : ByteArray), (⟨#[97]⟩ : ByteArray), (⟨#[97, 47, 98]⟩ : ByteArray), (⟨#[97, 98]⟩ : ByteArray), (⟨#[105, 110, 98, 111, 120, 47, 120]⟩ : ByteArray), (⟨#[97]⟩ : ByteArray), (⟨#[105, 110, 98, 111, 120]⟩ : ByteArray)])).1) (.str (name2 c).1))) ∧ true = true))))) (by kernel_rfl) ?_
  unfold T3
  simp only [SIU, cuE_eq, cu_eq, eq_self]
  repeat' (with_reducible first | exact trivial | apply And.intro | apply bifI | intro _)
  all_goals first
    | (with_reducible trivial)
    | omega
    | (with_reducible infer_instance)
    | (simp only [name2, cond_true, cond_false, Int.toNat_natCast, *]; done)
    | (subst_vars; simp only [name2, cond_true, cond_false, Int.toNat_natCast, *]; done)
    | (simp only [name2, cond_true, cond_false, *]; exact leC_refl)
    | (refine ⟨by assumption, ?_⟩; simp; done)
def e_s_l2Name : MEntry Tryz.prog := ⟨48, [(.b tyCur)], fun x => CurOk x.1, fun x => ((name2 x.1).2, ()), fun x => .c (.str (name2 x.1).1), fun _ => [], fun x hx => m_s_l2Name x.1 hx, Tryz.call48⟩
def body7 (c : GCur) : ByteArray × GCur := ((pick c ([(⟨#[]⟩ : ByteArray), (⟨#[104, 105]⟩ : ByteArray), (⟨#[97, 32, 98]⟩ : ByteArray), (⟨#[120, 13, 10, 121]⟩ : ByteArray), (⟨#[0, 255]⟩ : ByteArray), (⟨#[40, 34, 113, 34, 41]⟩ : ByteArray), (⟨#[49, 50, 51, 52, 53, 54, 55, 56, 57, 48, 49, 50, 51, 52, 53, 54, 55, 56, 57, 48, 49, 50, 51, 52, 53, 54, 55, 56, 57, 48, 49, 50, 51, 52, 53, 54, 55, 56, 57, 48]⟩ : ByteArray)])).1, (pick c ([(⟨#[]⟩ : ByteArray), (⟨#[104, 105]⟩ : ByteArray), (⟨#[97, 32, 98]⟩ : ByteArray), (⟨#[120, 13, 10, 121]⟩ : ByteArray), (⟨#[0, 255]⟩ : ByteArray), (⟨#[40, 34, 113, 34, 41]⟩ : ByteArray), (⟨#[49, 50, 51, 52, 53, 54, 55, 56, 57, 48, 49, 50, 51, 52, 53, 54, 55, 56, 57, 48, 49, 50, 51, 52, 53, 54, 55, 56, 57, 48, 49, 50, 51, 52, 53, 54, 55, 56, 57, 48]⟩ : ByteArray)])).2)
instance body7_ok (c : GCur) [CurOk c] : CurOk (body7 c).2 := by
  unfold body7
  simp only [bif_if]
  repeat' split
  all_goals infer_instance
theorem m_s_l7Body (c : GCur) (hpre : CurOk c) : MCalls Tryz.prog 50 (argsM 0 [(.b tyCur)] (c, ())) (preM 0 [(.b tyCur)] (c, ())) (postM 0 [(.b tyCur)] ((body7 c).2, ()) ++ []) (inpM 0 [(.b tyCur)]) (.c (.str (body7 c).1)) := by
  refine mcalls_of (T := ⟨[], [], [], [e_s_l1Pick], none, fun _ => [], 1, [], []⟩) (L := L0) Tryz.func50 rfl rfl rfl (by kernel_rfl) (fun hwf hwm => ?_)
  refine Eq.mpr (β := (T3 ((((CurOk c ∧ 0 < List.length ([(⟨#[]⟩ : ByteArray), (⟨#[104, 105]⟩ : ByteArray), (⟨#[97, 32, 98]⟩ : ByteArray), (⟨#[120, 13, 10, 121]⟩ : ByteArray), (⟨#[0, 255]⟩ : ByteArray), (⟨#[40, 34, 113, 34, 41]⟩ : ByteArray), (⟨#[49, 50, 51, 52, 53, 54, 55, 56, 57, 48, 49, 50, 51, 52, 53, 54, 55, 56, 57, 48, 49, 50, 51, 52, 53, 54, 55, 56, 57, 48, 49, 50, 51, 52, 53, 54, 55, 56, 57, 48]⟩ : ByteArray)])) ∧ (((cuE c c)) ∧ (([(⟨#[]⟩ : ByteArray), (⟨#[104, 105]⟩ : ByteArray), (⟨#[97, 32, 98]⟩ : ByteArray), (⟨#[120, 13, 10, 121]⟩ : ByteArray), (⟨#[0, 255]⟩ : ByteArray), (⟨#[40, 34, 113, 34, 41]⟩ : ByteArray), (⟨#[49, 50, 51, 52, 53, 54, 55, 56, 57, 48, 49, 50, 51, 52, 53, 54, 55, 56, 57, 48, 49, 50, 51, 52, 53, 54, 55, 56, 57, 48, 49, 50, 51, 52, 53, 54, 55, 56, 57, 48]⟩ : ByteArray)]) = ([(⟨#[]⟩ : ByteArray), (⟨#[104, 105]⟩ : ByteArray), (⟨#[97, 32, 98]⟩ : ByteArray), (⟨#[120, 13, 10, 121]⟩ : ByteArray), (⟨#[0, 255]⟩ : ByteArray), (⟨#[40, 34, 113, 34, 41]⟩ : ByteArray), (⟨#[49, 50, 51, 52, 53, 54, 55, 56, 57, 48, 49, 50, 51, 52, 53, 54, 55, 56, 57, 48, 49, 50, 51, 52, 53, 54, 55, 56, 57, 48, 49, 50, 51, 52, 53, 54, 55, 56, 57, 48]⟩ : ByteArray)])) ∧ True)) ∧ true = true) ∧ ∀ r0 : List ByteArray, r0 = [(⟨#[]⟩ : ByteArray), (⟨#[104, 105]⟩ : ByteArray), (⟨#[97, 32, 98]⟩ : ByteArray), (⟨#[120, 13, 10, 121]⟩ : ByteArray), (⟨#[0, 255]⟩ : ByteArray), (⟨#[40, 34, 113, 34, 41]⟩ : ByteArray), (⟨#[49, 50, 51, 52, 53, 54, 55, 56, 57, 48, 49, 50, 51, 52, 53, 54, 55, 56, 57, 48, 49, 50, 51, 52, 53, 54, 55, 56, 57, 48, 49, 50, 51, 52, 53, 54, 55, 56, 57, 48]⟩ : ByteArray)] → (True ∧ (((((cuE (pick c ([(⟨#[]⟩ : ByteArray), (⟨#[104, 105]⟩ : ByteArray), (⟨#[97, 32, 98]⟩ : ByteArray), (⟨#[120, 13, 10, 121]⟩ : ByteArray), (⟨#[0, 255]⟩ : ByteArray), (⟨#[40, 34, 113, 34, 41]⟩ : ByteArray), (⟨#[49, 50, 51, 52, 53, 54, 55, 56, 57, 48, 49, 50, 51, 52, 53, 54, 55, 56, 57, 48, 49, 50, 51, 52, 53, 54, 55, 56, 57, 48, 49, 50, 51, 52, 53, 54, 55, 56, 57, 48]⟩ : ByteArray)])).2 (body7 c).2)) ∧ True) ∧ (true = true ∧ leC (.str (pick c ([(⟨#[]⟩ : ByteArray), (⟨#[104, 105]⟩ : ByteArray), (⟨#[97, 32, 98]⟩ : ByteArray), (⟨#[120, 13, 10, 121]⟩ : ByteArray), (⟨#[0, 255]⟩ : ByteArray), (⟨#[40, 34, 113, 34, 41]⟩ : ByteArray), (⟨#[49, 50, 51, 52, 53, 54, 55, 56, 57, 48, 49, 50, 51, 52, 53, 54, 55, 56, 57, 48, 49, 50, 51, 52, 53, 54, 55, 56, 57, 48, 49, 50, 51, 52, 53, 54, 55, 56, 57, 48]⟩ : ByteArray)])).1) (.str (body7 c).1))) ∧ true = true))))) (by kernel_rfl) ?_
  unfold T3
  simp only [SIU, cuE_eq, cu_eq, eq_self]
  repeat' (with_reducible first | exact trivial | apply And.intro | apply bifI | intro _)
  all_goals first
    | (with_reducible trivial)
    | omega
    | (with_reducible infer_instance)
    | (simp only [body7, cond_true, cond_false, Int.toNat_natCast, *]; done)
    | (subst_vars; simp only [body7, cond_true, cond_false, Int.toNat_natCast, *]; done)
    | (simp only [body7, cond_true, cond_false, *]; exact leC_refl)
def e_s_l7Body : MEntry Tryz.prog := ⟨50, [(.b tyCur)], fun x => CurOk x.1, fun x => ((body7 x.1).2, ()), fun x => .c (.str (body7 x.1).1), fun _ => [], fun x hx => m_s_l7Body x.1 hx, Tryz.call50⟩
def turnPre (s : ByteArray) (l : List ByteArray) : Prop := s.size ≤ 1048576 ∧ 0 < l.length ∧ ∀ x ∈ l, x.size ≤ 100
def turned (c : GCur) (s : ByteArray) (list : List ByteArray) : ByteArray × GCur := (bif (eqI (below (below c (IntKind.wrap .i64 (((ByteArray.size s : Nat) : Int) + 1))).2 6).1 0) then ((((ByteArray.extract s (Int.toNat 0) (Int.toNat (below c (IntKind.wrap .i64 (((ByteArray.size s : Nat) : Int) + 1))).1)) ++ (pick (below (below c (IntKind.wrap .i64 (((ByteArray.size s : Nat) : Int) + 1))).2 6).2 list).1) ++ (ByteArray.extract s (Int.toNat (below c (IntKind.wrap .i64 (((ByteArray.size s : Nat) : Int) + 1))).1) (Int.toNat ((ByteArray.size s : Nat) : Int)))), (pick (below (below c (IntKind.wrap .i64 (((ByteArray.size s : Nat) : Int) + 1))).2 6).2 list).2) else (bif (eqI (below (below c (IntKind.wrap .i64 (((ByteArray.size s : Nat) : Int) + 1))).2 6).1 1) then ((ByteArray.extract s (Int.toNat 0) (Int.toNat (below c (IntKind.wrap .i64 (((ByteArray.size s : Nat) : Int) + 1))).1)), (below (below c (IntKind.wrap .i64 (((ByteArray.size s : Nat) : Int) + 1))).2 6).2) else (s, (below (below c (IntKind.wrap .i64 (((ByteArray.size s : Nat) : Int) + 1))).2 6).2)))
instance turned_ok (c : GCur) (s : ByteArray) (list : List ByteArray) [CurOk c] : CurOk (turned c s list).2 := by
  unfold turned
  simp only [bif_if]
  repeat' split
  all_goals infer_instance
def k00eyal (s : ByteArray) (c : GCur) (list : List ByteArray) (r0 : List ByteArray) : Prop := (ByteArray.size ((ByteArray.extract s (Int.toNat 0) (Int.toNat (below c (IntKind.wrap .i64 (((ByteArray.size s : Nat) : Int) + 1))).1)) ++ (pick (below (below c (IntKind.wrap .i64 (((ByteArray.size s : Nat) : Int) + 1))).2 6).2 list).1) + ByteArray.size (ByteArray.extract s (Int.toNat (below c (IntKind.wrap .i64 (((ByteArray.size s : Nat) : Int) + 1))).1) (Int.toNat ((ByteArray.size s : Nat) : Int))) ≤ maxLen ∧ (True ∧ (((((cuE (pick (below (below c (IntKind.wrap .i64 (((ByteArray.size s : Nat) : Int) + 1))).2 6).2 list).2 (turned c s list).2)) ∧ (r0 = list) ∧ True) ∧ (true = true ∧ leC (.str (((ByteArray.extract s (Int.toNat 0) (Int.toNat (below c (IntKind.wrap .i64 (((ByteArray.size s : Nat) : Int) + 1))).1)) ++ (pick (below (below c (IntKind.wrap .i64 (((ByteArray.size s : Nat) : Int) + 1))).2 6).2 list).1) ++ (ByteArray.extract s (Int.toNat (below c (IntKind.wrap .i64 (((ByteArray.size s : Nat) : Int) + 1))).1) (Int.toNat ((ByteArray.size s : Nat) : Int))))) (.str (turned c s list).1))) ∧ true = true)))
def k10eyal (c : GCur) (s : ByteArray) (list : List ByteArray) : Prop := (((CurOk (below (below c (IntKind.wrap .i64 (((ByteArray.size s : Nat) : Int) + 1))).2 6).2 ∧ 0 < List.length list) ∧ (((cuE (below (below c (IntKind.wrap .i64 (((ByteArray.size s : Nat) : Int) + 1))).2 6).2 (below (below c (IntKind.wrap .i64 (((ByteArray.size s : Nat) : Int) + 1))).2 6).2)) ∧ (list = list) ∧ True)) ∧ true = true)
def k20eyal (c : GCur) (s : ByteArray) : Prop := ((0 : Int) ≤ 0 ∧ (0 : Int) ≤ (below c (IntKind.wrap .i64 (((ByteArray.size s : Nat) : Int) + 1))).1 ∧ ((below c (IntKind.wrap .i64 (((ByteArray.size s : Nat) : Int) + 1))).1 : Int) ≤ ((ByteArray.size s : Nat) : Int))
def k30eyal (c : GCur) (s : ByteArray) : Prop := ((0 : Int) ≤ (below c (IntKind.wrap .i64 (((ByteArray.size s : Nat) : Int) + 1))).1 ∧ ((below c (IntKind.wrap .i64 (((ByteArray.size s : Nat) : Int) + 1))).1 : Int) ≤ ((ByteArray.size s : Nat) : Int) ∧ (((ByteArray.size s : Nat) : Int) : Int) ≤ ((ByteArray.size s : Nat) : Int))
def k40eyal (s : ByteArray) (c : GCur) (list : List ByteArray) (r0 : List ByteArray) : Prop := (ByteArray.size (ByteArray.extract s (Int.toNat 0) (Int.toNat (below c (IntKind.wrap .i64 (((ByteArray.size s : Nat) : Int) + 1))).1)) + ByteArray.size (pick (below (below c (IntKind.wrap .i64 (((ByteArray.size s : Nat) : Int) + 1))).2 6).2 list).1 ≤ maxLen ∧ (k00eyal s c list r0))
def k50eyal (s : ByteArray) (c : GCur) (list : List ByteArray) (r0 : List ByteArray) : Prop := (ByteArray.size (ByteArray.extract s (Int.toNat 0) (Int.toNat (below c (IntKind.wrap .i64 (((ByteArray.size s : Nat) : Int) + 1))).1)) + ByteArray.size (pick (below (below c (IntKind.wrap .i64 (((ByteArray.size s : Nat) : Int) + 1))).2 6).2 list).1 ≤ maxLen ∧ ((k30eyal c s) ∧ (k00eyal s c list r0)))
theorem m_s_l1Turned (c : GCur) (s : ByteArray) (list : List ByteArray) (hpre : (CurOk c ∧ turnPre s list)) : MCalls Tryz.prog 68 (argsM 0 [(.b tyCur), (.a (.v tyStr)), (.q false (.list tyStr))] (c, s, list, ())) (preM 0 [(.b tyCur), (.a (.v tyStr)), (.q false (.list tyStr))] (c, s, list, ())) (postM 0 [(.b tyCur), (.a (.v tyStr)), (.q false (.list tyStr))] ((turned c s list).2, s, list, ()) ++ []) (inpM 0 [(.b tyCur), (.a (.v tyStr)), (.q false (.list tyStr))]) (.c (.str (turned c s list).1)) := by
  refine mcalls_of (T := ⟨[], [], [], [e_s_l1Below, e_s_l1Pick], none, fun _ => [], 2, [1], []⟩) (L := L0) Tryz.func68 rfl rfl rfl (by kernel_rfl) (fun hwf hwm => ?_)
  refine Eq.mpr (β := (T5 ((cu c) ∧ (T2 ((cu (below c (IntKind.wrap .i64 (((ByteArray.size s : Nat) : Int) + 1))).2) ∧ (T2 (bif (eqI (below (below c (IntKind.wrap .i64 (((ByteArray.size s : Nat) : Int) + 1))).2 6).1 0) then ((true = true ∧ true = true) ∧ (T6 (((k20eyal c s) ∧ (((k10eyal c s list) ∧ ∀ r0 : List ByteArray, r0 = list → (k50eyal s c list r0)) ∧ (((k30eyal c s) ∧ ((k10eyal c s list) ∧ ∀ r0 : List ByteArray, r0 = list → (k40eyal s c list r0)))))) ∧ (((k10eyal c s list) ∧ ∀ r0 : List ByteArray, r0 = list → ((k20eyal c s) ∧ (k50eyal s c list r0))) ∧ (((k30eyal c s) ∧ (((k20eyal c s) ∧ ((k10eyal c s list) ∧ ∀ r0 : List ByteArray, r0 = list → (k40eyal s c list r0))) ∧ (((k10eyal c s list) ∧ ∀ r0 : List ByteArray, r0 = list → ((k20eyal c s) ∧ (k40eyal s c list r0))))))))))) else (T2 (bif (eqI (below (below c (IntKind.wrap .i64 (((ByteArray.size s : Nat) : Int) + 1))).2 6).1 1) then (T2 ((k20eyal c s) ∧ (True ∧ (((((cuE (below (below c (IntKind.wrap .i64 (((ByteArray.size s : Nat) : Int) + 1))).2 6).2 (turned c s list).2)) ∧ (list = list) ∧ True) ∧ (true = true ∧ leC (.str (ByteArray.extract s (Int.toNat 0) (Int.toNat (below c (IntKind.wrap .i64 (((ByteArray.size s : Nat) : Int) + 1))).1))) (.str (turned c s list).1))) ∧ true = true)))) else (T2 (((((cuE (below (below c (IntKind.wrap .i64 (((ByteArray.size s : Nat) : Int) + 1))).2 6).2 (turned c s list).2)) ∧ (list = list) ∧ True) ∧ (true = true ∧ leC (.str s) (.str (turned c s list).1))) ∧ true = true))))))))))) (by kernel_rfl) ?_
  unfold k50eyal k40eyal k30eyal k20eyal k10eyal k00eyal T2 T5 T6
  obtain ⟨hc, h1, h2, h3⟩ := hpre
  have w : IntKind.wrap .i64 (((ByteArray.size s : Nat) : Int) + 1) = ((ByteArray.size s : Nat) : Int) + 1 := w64i (by omega) (by omega)
  have hb := below_b (c := c) (n := ((ByteArray.size s : Nat) : Int) + 1) (by omega)
  have hp := pick_size (c := (below (below c (((ByteArray.size s : Nat) : Int) + 1)).2 6).2) (n := 100) h2 h3
  simp only [w]
  simp only [SIU, cuE_eq, cu_eq, eq_self]
  repeat' (with_reducible first | exact trivial | apply And.intro | apply bifI | intro _)
  all_goals first
    | (with_reducible trivial)
    | omega
    | (with_reducible infer_instance)
    | (simp only [turned, cond_true, cond_false, Int.toNat_natCast, *]; done)
    | (subst_vars; simp only [turned, cond_true, cond_false, Int.toNat_natCast, *]; done)
    | (simp only [turned, cond_true, cond_false, *]; exact leC_refl)
    | exact ⟨by assumption, h2⟩
    | ((try simp only [ByteArray.size_append, ByteArray.size_extract]); unfold maxLen; omega)
def e_s_l1Turned : MEntry Tryz.prog := ⟨68, [(.b tyCur), (.a (.v tyStr)), (.q false (.list tyStr))], fun x => (CurOk x.1 ∧ turnPre x.2.1 x.2.2.1), fun x => ((turned x.1 x.2.1 x.2.2.1).2, x.2.1, x.2.2.1, ()), fun x => .c (.str (turned x.1 x.2.1 x.2.2.1).1), fun _ => [], fun x hx => m_s_l1Turned x.1 x.2.1 x.2.2.1 hx, Tryz.call68⟩
theorem turned_size {c : GCur} {s : ByteArray} {l : List ByteArray} (h : turnPre s l) : (turned c s l).1.size ≤ 2 * s.size + 100 := by
  unfold turned
  simp only [bif_if]
  have hp := fun c' => pick_size (c := c') (n := 100) h.2.1 h.2.2
  repeat' split
  · have := hp (below (below c (IntKind.wrap .i64 (((ByteArray.size s : Nat) : Int) + 1))).2 6).2
    simp only [ByteArray.size_append, ByteArray.size_extract]
    omega
  · simp only [ByteArray.size_extract]
    omega
  · show s.size ≤ _
    omega
def spanD (c : GCur) : GSpan × GCur :=
  let a := below c 6
  let b := below a.2 8
  let o := once b.2 2
  (bif o.1 then (a.1, a.1) else (a.1, b.1), o.2)
instance spanD_ok (c : GCur) [CurOk c] : CurOk (spanD c).2 := by unfold spanD; infer_instance
def set4N (c : GCur) : Nat → List GSpan × GCur
  | 0 => ([], c)
  | k + 1 => ((set4N c k).1 ++ [(spanD (set4N c k).2).1], (spanD (set4N c k).2).2)
instance set4N_ok (c : GCur) [CurOk c] : ∀ k, CurOk (set4N c k).2
  | 0 => by unfold set4N; infer_instance
  | k + 1 => by have := set4N_ok c k; unfold set4N; infer_instance
def set4 (c : GCur) : List GSpan × GCur := set4N (below c 3).2 (Int.toNat (1 + (below c 3).1))
instance set4_ok (c : GCur) [CurOk c] : CurOk (set4 c).2 := by unfold set4; infer_instance
end Go.Proofs.YtoigkpkafgjeaaaGreatDoor
set_option linter.unusedSimpArgs false
set_option linter.unusedVariables false
set_option maxRecDepth 100000
set_option maxHeartbeats 4000000
namespace Go.Proofs.YtoigkpkafgjeaaaGreatDoor
open Go.ChangeShapes Go.WideShapes Go.ChangeAt Go.RowKit Go.Joins Go.Deep
open GoRep (rep bulk)


end Go.Proofs.YtoigkpkafgjeaaaGreatDoor
