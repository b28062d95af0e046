/-
  Draws of commands.
  No condition but what the arguments' cells hold. Printed by vcgen.py.
-/
import Derived.Test.YtoigkpkafgjeaaaABlDraw
import Derived.Test.YtoigkpkafgjeaaaABlCmd4
import Derived.Test.YtoigkpkafgjeaaaAUpper
set_option linter.unusedSimpArgs false
set_option linter.unusedVariables false
set_option maxRecDepth 100000
set_option maxHeartbeats 4000000
namespace Go.Proofs.Ytoigkpkafgjeaaa
open Go.ChangeShapes Go.WideShapes Go.ChangeAt Go.RowKit Go.Joins Go.Deep
open GoRep (rep bulk)

theorem pick_size {c : GCur} {l : List ByteArray} {n : Nat} (h0 : 0 < l.length) (h : ∀ x ∈ l, x.size ≤ n) : (pick c l).1.size ≤ n := by
  have hb := below_b (c := c) (n := ((l.length : Nat) : Int)) (by omega)
  unfold pick
  exact h _ (List.mem_of_getElem? (nthS_get (by omega)))
def name2 (c : GCur) : ByteArray × GCur := ((pick c ([(⟨#[105, 110, 98, 111, 120]⟩ : ByteArray), (⟨#[97]⟩ : ByteArray), (⟨#[97, 47, 98]⟩ : ByteArray), (⟨#[97, 98]⟩ : ByteArray), (⟨#[105, 110, 98, 111, 120, 47, 120]⟩ : ByteArray), (⟨#[97]⟩ : ByteArray), (⟨#[105, 110, 98, 111, 120]⟩ : ByteArray)])).1, (pick c ([(⟨#[105, 110, 98, 111, 120]⟩ : ByteArray), (⟨#[97]⟩ : ByteArray), (⟨#[97, 47, 98]⟩ : ByteArray), (⟨#[97, 98]⟩ : ByteArray), (⟨#[105, 110, 98, 111, 120, 47, 120]⟩ : ByteArray), (⟨#[97]⟩ : ByteArray), (⟨#[105, 110, 98, 111, 120]⟩ : ByteArray)])).2)
instance name2_ok (c : GCur) [CurOk c] : CurOk (name2 c).2 := by
  unfold name2
  simp only [bif_if]
  repeat' split
  all_goals infer_instance
theorem m_s_l2Name (c : GCur) (hpre : CurOk c) : MCalls Try.prog 79 (argsM 0 [(.b tyCur)] (c, ())) (preM 0 [(.b tyCur)] (c, ())) (postM 0 [(.b tyCur)] ((name2 c).2, ()) ++ []) (inpM 0 [(.b tyCur)]) (.c (.str (name2 c).1)) := by
  refine mcalls_of (T := ⟨[], [], [], [e_s_l1Pick], none, fun _ => [], 1, [], []⟩) (L := L0) Try.func79 rfl rfl rfl (by kernel_rfl) (fun hwf hwm => ?_)
  refine Eq.mpr (β := (T3 ((((CurOk c ∧ 0 < List.length ([(⟨#[105, 110, 98, 111, 120]⟩ : ByteArray), (⟨#[97]⟩ : ByteArray), (⟨#[97, 47, 98]⟩ : ByteArray), (⟨#[97, 98]⟩ : ByteArray), (⟨#[105, 110, 98, 111, 120, 47, 120]⟩ : ByteArray), (⟨#[97]⟩ : ByteArray), (⟨#[105, 110, 98, 111, 120]⟩ : ByteArray)])) ∧ (((cuE c c)) ∧ (([(⟨#[105, 110, 98, 111, 120]⟩ : ByteArray), (⟨#[97]⟩ : ByteArray), (⟨#[97, 47, 98]⟩ : ByteArray), (⟨#[97, 98]⟩ : ByteArray), (⟨#[105, 110, 98, 111, 120, 47, 120]⟩ : ByteArray), (⟨#[97]⟩ : ByteArray), (⟨#[105, 110, 98, 111, 120]⟩ : ByteArray)]) = ([(⟨#[105, 110, 98, 111, 120]⟩ : ByteArray), (⟨#[97]⟩ : ByteArray), (⟨#[97, 47, 98]⟩ : ByteArray), (⟨#[97, 98]⟩ : ByteArray), (⟨#[105, 110, 98, 111, 120, 47, 120]⟩ : ByteArray), (⟨#[97]⟩ : ByteArray), (⟨#[105, 110, 98, 111, 120]⟩ : ByteArray)])) ∧ True)) ∧ true = true) ∧ ∀ r0 : List ByteArray, r0 = [(⟨#[105, 110, 98, 111, 120]⟩ : ByteArray), (⟨#[97]⟩ : ByteArray), (⟨#[97, 47, 98]⟩ : ByteArray), (⟨#[97, 98]⟩ : ByteArray), (⟨#[105, 110, 98, 111, 120, 47, 120]⟩ : ByteArray), (⟨#[97]⟩ : ByteArray), (⟨#[105, 110, 98, 111, 120]⟩ : ByteArray)] → (True ∧ (((((cuE (pick c ([(⟨#[105, 110, 98, 111, 120]⟩ : ByteArray), (⟨#[97]⟩ : ByteArray), (⟨#[97, 47, 98]⟩ : ByteArray), (⟨#[97, 98]⟩ : ByteArray), (⟨#[105, 110, 98, 111, 120, 47, 120]⟩ : ByteArray), (⟨#[97]⟩ : ByteArray), (⟨#[105, 110, 98, 111, 120]⟩ : ByteArray)])).2 (name2 c).2)) ∧ True) ∧ (true = true ∧ leC (.str (pick c ([(⟨#[105, 110, 98, 111, 120]⟩ : ByteArray), (⟨#[97]⟩ : ByteArray), (⟨#[97, 47, 98]⟩ : ByteArray), (⟨#[97, 98]⟩ : ByteArray), (⟨#[105, 110, 98, 111, 120, 47, 120]⟩ : ByteArray), (⟨#[97]⟩ : ByteArray), (⟨#[105, 110, 98, 111, 120]⟩ : ByteArray)])).1) (.str (name2 c).1))) ∧ true = true))))) (by kernel_rfl) ?_
  unfold T3
  simp only [SIU, cuE_eq, cu_eq, eq_self]
  repeat' (with_reducible first | exact trivial | apply And.intro | apply bifI | intro _)
  all_goals first
    | (with_reducible trivial)
    | omega
    | (with_reducible infer_instance)
    | (simp only [name2, cond_true, cond_false, Int.toNat_natCast, *]; done)
    | (subst_vars; simp only [name2, cond_true, cond_false, Int.toNat_natCast, *]; done)
    | (simp only [name2, cond_true, cond_false, *]; exact leC_refl)
    | (refine ⟨by assumption, ?_⟩; simp; done)
def e_s_l2Name : MEntry Try.prog := ⟨79, [(.b tyCur)], fun x => CurOk x.1, fun x => ((name2 x.1).2, ()), fun x => .c (.str (name2 x.1).1), fun _ => [], fun x hx => m_s_l2Name x.1 hx, Try.call79⟩
def body7 (c : GCur) : ByteArray × GCur := ((pick c ([(⟨#[]⟩ : ByteArray), (⟨#[104, 105]⟩ : ByteArray), (⟨#[97, 32, 98]⟩ : ByteArray), (⟨#[120, 13, 10, 121]⟩ : ByteArray), (⟨#[0, 255]⟩ : ByteArray), (⟨#[40, 34, 113, 34, 41]⟩ : ByteArray), (⟨#[49, 50, 51, 52, 53, 54, 55, 56, 57, 48, 49, 50, 51, 52, 53, 54, 55, 56, 57, 48, 49, 50, 51, 52, 53, 54, 55, 56, 57, 48, 49, 50, 51, 52, 53, 54, 55, 56, 57, 48]⟩ : ByteArray)])).1, (pick c ([(⟨#[]⟩ : ByteArray), (⟨#[104, 105]⟩ : ByteArray), (⟨#[97, 32, 98]⟩ : ByteArray), (⟨#[120, 13, 10, 121]⟩ : ByteArray), (⟨#[0, 255]⟩ : ByteArray), (⟨#[40, 34, 113, 34, 41]⟩ : ByteArray), (⟨#[49, 50, 51, 52, 53, 54, 55, 56, 57, 48, 49, 50, 51, 52, 53, 54, 55, 56, 57, 48, 49, 50, 51, 52, 53, 54, 55, 56, 57, 48, 49, 50, 51, 52, 53, 54, 55, 56, 57, 48]⟩ : ByteArray)])).2)
instance body7_ok (c : GCur) [CurOk c] : CurOk (body7 c).2 := by
  unfold body7
  simp only [bif_if]
  repeat' split
  all_goals infer_instance
def turned (c : GCur) (s : ByteArray) (list : List ByteArray) : ByteArray × GCur := (bif (eqI (below (below c (IntKind.wrap .i64 (((ByteArray.size s : Nat) : Int) + 1))).2 6).1 0) then ((((ByteArray.extract s (Int.toNat 0) (Int.toNat (below c (IntKind.wrap .i64 (((ByteArray.size s : Nat) : Int) + 1))).1)) ++ (pick (below (below c (IntKind.wrap .i64 (((ByteArray.size s : Nat) : Int) + 1))).2 6).2 list).1) ++ (ByteArray.extract s (Int.toNat (below c (IntKind.wrap .i64 (((ByteArray.size s : Nat) : Int) + 1))).1) (Int.toNat ((ByteArray.size s : Nat) : Int)))), (pick (below (below c (IntKind.wrap .i64 (((ByteArray.size s : Nat) : Int) + 1))).2 6).2 list).2) else (bif (eqI (below (below c (IntKind.wrap .i64 (((ByteArray.size s : Nat) : Int) + 1))).2 6).1 1) then ((ByteArray.extract s (Int.toNat 0) (Int.toNat (below c (IntKind.wrap .i64 (((ByteArray.size s : Nat) : Int) + 1))).1)), (below (below c (IntKind.wrap .i64 (((ByteArray.size s : Nat) : Int) + 1))).2 6).2) else (s, (below (below c (IntKind.wrap .i64 (((ByteArray.size s : Nat) : Int) + 1))).2 6).2)))
instance turned_ok (c : GCur) (s : ByteArray) (list : List ByteArray) [CurOk c] : CurOk (turned c s list).2 := by
  unfold turned
  simp only [bif_if]
  repeat' split
  all_goals infer_instance
def spanD (c : GCur) : GSpan × GCur :=
  let a := below c 6
  let b := below a.2 8
  let o := once b.2 2
  (bif o.1 then (a.1, a.1) else (a.1, b.1), o.2)
instance spanD_ok (c : GCur) [CurOk c] : CurOk (spanD c).2 := by unfold spanD; infer_instance
def set4N (c : GCur) : Nat → List GSpan × GCur
  | 0 => ([], c)
  | k + 1 => ((set4N c k).1 ++ [(spanD (set4N c k).2).1], (spanD (set4N c k).2).2)
instance set4N_ok (c : GCur) [CurOk c] : ∀ k, CurOk (set4N c k).2
  | 0 => by unfold set4N; infer_instance
  | k + 1 => by have := set4N_ok c k; unfold set4N; infer_instance
def set4 (c : GCur) : List GSpan × GCur := set4N (below c 3).2 (Int.toNat (1 + (below c 3).1))
instance set4_ok (c : GCur) [CurOk c] : CurOk (set4 c).2 := by unfold set4; infer_instance
end Go.Proofs.Ytoigkpkafgjeaaa
