/-
  Draws of filters.
  No condition but what the arguments' cells hold. Printed by vcgen.py.
-/
import Derived.Test.YtoigkpkafgjeaaaABlDraw6
set_option linter.unusedSimpArgs false
set_option linter.unusedVariables false
set_option maxRecDepth 100000
set_option maxHeartbeats 4000000
namespace Go.Proofs.Ytoigkpkafgjeaaa
open Go.ChangeShapes Go.WideShapes Go.ChangeAt Go.RowKit Go.Joins Go.Deep
open GoRep (rep bulk)

def bytes1 (c : GCur) : Nat → List Int × GCur
  | 0 => ([], c)
  | k + 1 => ((bytes1 c k).1 ++ [IntKind.wrap .u8 (byteV (bytes1 c k).2)], byteN (bytes1 c k).2)
instance bytes1_ok (c : GCur) [CurOk c] : ∀ k, CurOk (bytes1 c k).2
  | 0 => by unfold bytes1; infer_instance
  | k + 1 => by have := bytes1_ok c k; unfold bytes1; infer_instance
theorem bytes1_len (c : GCur) : ∀ k, (bytes1 c k).1.length = k
  | 0 => rfl
  | k + 1 => by unfold bytes1; rw [List.length_append, bytes1_len c k]; rfl
def by3 (n : Int) : Prop := 0 ≤ n ∧ n ≤ 1000
def L_s_l1Bytes (c : GCur) (n : Int) : Nat → List AV → Mem → LoopA
  | 3, tm, M => ⟨Nat, fun y => (anyR (setA tm [(5, .c (.row 1 0)), (6, .c (.int .i64 ((y : Nat) : Int)))]) 7 12, setM M [(0, .box [.hs .no (.int .u8) (bytes1 c y).2.1, .int .i64 (bytes1 c y).2.2.1, .int .i64 (bytes1 c y).2.2.2]), (1, .row (.int .u8) (bytes1 c y).1 0 0 none)]), fun y => (y ≤ Int.toNat n), fun y => (Int.toNat n - y)⟩
  | _, _, _ => ⟨Unit, fun _ => ([], []), fun _ => False, fun _ => 0⟩
theorem m_s_l1Bytes (c : GCur) (n : Int) (hpre : (CurOk c ∧ by3 n)) : MCalls Try.prog 80 (argsM 0 [(.b tyCur), (.a (.v tyInt))] (c, n, ())) (preM 0 [(.b tyCur), (.a (.v tyInt))] (c, n, ())) (postM 0 [(.b tyCur), (.a (.v tyInt))] ((bytes1 c (Int.toNat n)).2, n, ()) ++ [.row (.int .u8) (bytes1 c (Int.toNat n)).1 0 0 none]) (inpM 0 [(.b tyCur), (.a (.v tyInt))]) (.c (.row 1 0)) := by
  refine mcalls_of (T := ⟨[], [], [], [e_s_l1Byte], none, fun _ => [], 1, [], []⟩) (L := (L_s_l1Bytes c n)) Try.func80 rfl rfl rfl (by kernel_rfl) (fun hwf hwm => ?_)
  refine Eq.mpr (β := (T4 ((∃ q : Nat, (q ≤ Int.toNat n) ∧ ((lxs [.c (.bp 0 0), .c (.int .i64 n), .tp [], .tp [], .c (.raw (.slice none 0 0)), .c (.row 1 0)] (leV (.c (.int .i64 0)) (.c (.int .i64 ((q : Nat) : Int))) ∧ TN 12 (lxs [.tp []] True))) ∧ (leB (.box [.hs .no (.int .u8) c.1, .int .i64 c.2.1, .int .i64 c.2.2]) (.box [.hs .no (.int .u8) (bytes1 c q).2.1, .int .i64 (bytes1 c q).2.2.1, .int .i64 (bytes1 c q).2.2.2]) ∧ leB (.row (.int .u8) ([] : List Int) 0 0 none) (.row (.int .u8) (bytes1 c q).1 0 0 none) ∧ True) ∧ true = true)) ∧ ∀ y0 : Nat, (y0 ≤ Int.toNat n) → (T3 (bif (ltI ((y0 : Nat) : Int) n) then (T2 ((cu (bytes1 c y0).2) ∧ (true = true ∧ (True ∧ ((True ∧ List.length (bytes1 c y0).1 + List.length ([(IntKind.wrap .u8 (byteV (bytes1 c y0).2))] : List Int) ≤ rowMax) ∧ (T4 (∃ y0' : Nat, (y0' ≤ Int.toNat n) ∧ (Int.toNat n - y0') < (Int.toNat n - y0) ∧ ((lxs [.c (.bp 0 0), .c (.int .i64 n), .tp [], .tp [], .c (.raw (.slice none 0 0)), .c (.row 1 0)] (leV (.c (.int .i64 (IntKind.wrap .i64 (((y0 : Nat) : Int) + 1)))) (.c (.int .i64 ((y0' : Nat) : Int))) ∧ TN 12 (lxs [.tp []] True))) ∧ (leB (.box [.hs .no (.int .u8) (byteN (bytes1 c y0).2).1, .int .i64 (byteN (bytes1 c y0).2).2.1, .int .i64 (byteN (bytes1 c y0).2).2.2]) (.box [.hs .no (.int .u8) (bytes1 c y0').2.1, .int .i64 (bytes1 c y0').2.2.1, .int .i64 (bytes1 c y0').2.2.2]) ∧ leB (.row (.int .u8) ((bytes1 c y0).1 ++ ([(IntKind.wrap .u8 (byteV (bytes1 c y0).2))] : List Int)) 0 0 none) (.row (.int .u8) (bytes1 c y0').1 0 0 none) ∧ True) ∧ true = true)))))))) else (T2 (((((cuE (bytes1 c y0).2 (bytes1 c (Int.toNat n)).2)) ∧ True) ∧ ((bytes1 c y0).1 = (bytes1 c (Int.toNat n)).1)) ∧ true = true))))))) (by kernel_rfl) ?_
  unfold T2 T3 T4
  obtain ⟨hc, hn⟩ := hpre
  have hl := bytes1_len c
  simp only [cuE_eq, cu_eq, leB_cur, leB_rowU8, SI2A, eq_self]
  obtain ⟨hn0, hn1⟩ := hn
  repeat' (with_reducible first | exact trivial | apply And.intro | intro _)
  all_goals first
    | (with_reducible trivial)
    | omega
    | (with_reducible assumption)
    | infer_instance
    | exact ⟨0, Nat.zero_le _, rfl, rfl, Eq.mpr leB_refl trivial⟩
    | exact ⟨0, Nat.zero_le _, rfl, rfl, rfl⟩
    | (rw [hl]; simp only [List.length_singleton]; unfold rowMax; omega)
    | (rename_i y hy hlt; exact ⟨y + 1, by omega, by omega, wrapN (by unfold maxLen; omega), rfl, Eq.mpr leB_refl trivial⟩)
    | (rename_i y hy hlt; exact ⟨y + 1, by omega, by omega, wrapN (by unfold maxLen; omega), rfl, rfl⟩)
    | (rename_i y hy hge; obtain rfl : y = Int.toNat n := by omega
       rfl)
def e_s_l1Bytes : MEntry Try.prog := ⟨80, [(.b tyCur), (.a (.v tyInt))], fun x => (CurOk x.1 ∧ by3 x.2.1), fun x => ((bytes1 x.1 (Int.toNat x.2.1)).2, x.2.1, ()), fun x => .c (.row 1 0), fun x => [.row (.int .u8) (bytes1 x.1 (Int.toNat x.2.1)).1 0 0 none], fun x hx => m_s_l1Bytes x.1 x.2.1 hx, Try.call80⟩
theorem any2_b (c : GCur) : by3 (below c 4).1 := by
  have h := below_b (c := c) (n := 4) (by decide)
  exact ⟨h.1, by omega⟩
theorem any2_l (c d : GCur) : (bytes1 d (Int.toNat (below c 4).1)).1.length ≤ 1000 := by
  have h := below_b (c := c) (n := 4) (by decide)
  rw [bytes1_len]
  omega
theorem any2_s (c d : GCur) : (bytesOf (bytes1 d (Int.toNat (below c 4).1)).1).size ≤ 1000 := by
  have h := below_b (c := c) (n := 4) (by decide)
  rw [bytesOf_size, bytes1_len]
  omega
theorem b40 (c : GCur) : 0 ≤ IntKind.wrap .i64 (40 + (below c 2).1) ∧ IntKind.wrap .i64 (40 + (below c 2).1) ≤ 41 := by
  have h := below_b (c := c) (n := 2) (by decide)
  rw [w64i (by omega) (by omega)]
  omega
def any2 (c : GCur) : ByteArray × GCur := (bif (eqI (below c 4).1 0) then ((pick (below c 4).2 ([(⟨#[]⟩ : ByteArray), (⟨#[47]⟩ : ByteArray), (⟨#[97, 47]⟩ : ByteArray), (⟨#[47, 97]⟩ : ByteArray), (⟨#[97, 47, 47, 98]⟩ : ByteArray), (⟨#[65]⟩ : ByteArray), (⟨#[97, 98, 99, 100, 101, 102, 103, 104, 105, 106, 107, 108]⟩ : ByteArray), (⟨#[97, 98, 99, 100, 101, 102, 103, 104, 105, 106, 107, 108, 109]⟩ : ByteArray), (⟨#[97, 32, 98]⟩ : ByteArray), (⟨#[97, 34, 98]⟩ : ByteArray), (⟨#[92]⟩ : ByteArray), (⟨#[120, 40, 121]⟩ : ByteArray), (⟨#[0]⟩ : ByteArray), (⟨#[49, 50, 51, 52, 53, 54, 55, 56, 57, 48, 49, 50, 51, 52, 53, 54, 55, 56, 57, 48, 49, 50, 51, 52, 53, 54, 55, 56, 57, 48, 49, 50, 51, 52, 53, 54, 55, 56, 57, 48]⟩ : ByteArray), (⟨#[49, 50, 51, 52, 53, 54, 55, 56, 57, 48, 49, 50, 51, 52, 53, 54, 55, 56, 57, 48, 49, 50, 51, 52, 53, 54, 55, 56, 57, 48, 49, 50, 51, 52, 53, 54, 55, 56, 57, 48, 49]⟩ : ByteArray), (⟨#[127]⟩ : ByteArray), (⟨#[126]⟩ : ByteArray)])).1, (pick (below c 4).2 ([(⟨#[]⟩ : ByteArray), (⟨#[47]⟩ : ByteArray), (⟨#[97, 47]⟩ : ByteArray), (⟨#[47, 97]⟩ : ByteArray), (⟨#[97, 47, 47, 98]⟩ : ByteArray), (⟨#[65]⟩ : ByteArray), (⟨#[97, 98, 99, 100, 101, 102, 103, 104, 105, 106, 107, 108]⟩ : ByteArray), (⟨#[97, 98, 99, 100, 101, 102, 103, 104, 105, 106, 107, 108, 109]⟩ : ByteArray), (⟨#[97, 32, 98]⟩ : ByteArray), (⟨#[97, 34, 98]⟩ : ByteArray), (⟨#[92]⟩ : ByteArray), (⟨#[120, 40, 121]⟩ : ByteArray), (⟨#[0]⟩ : ByteArray), (⟨#[49, 50, 51, 52, 53, 54, 55, 56, 57, 48, 49, 50, 51, 52, 53, 54, 55, 56, 57, 48, 49, 50, 51, 52, 53, 54, 55, 56, 57, 48, 49, 50, 51, 52, 53, 54, 55, 56, 57, 48]⟩ : ByteArray), (⟨#[49, 50, 51, 52, 53, 54, 55, 56, 57, 48, 49, 50, 51, 52, 53, 54, 55, 56, 57, 48, 49, 50, 51, 52, 53, 54, 55, 56, 57, 48, 49, 50, 51, 52, 53, 54, 55, 56, 57, 48, 49]⟩ : ByteArray), (⟨#[127]⟩ : ByteArray), (⟨#[126]⟩ : ByteArray)])).2) else (bif (eqI (below c 4).1 1) then ((bytesOf (bytes1 (below (below c 4).2 4).2 (Int.toNat (below (below c 4).2 4).1)).1), (bytes1 (below (below c 4).2 4).2 (Int.toNat (below (below c 4).2 4).1)).2) else ((name2 (below c 4).2).1, (name2 (below c 4).2).2)))
instance any2_ok (c : GCur) [CurOk c] : CurOk (any2 c).2 := by
  unfold any2
  simp only [bif_if]
  repeat' split
  all_goals infer_instance
theorem m_s_l2Any (c : GCur) (hpre : CurOk c) : MCalls Try.prog 61 (argsM 0 [(.b tyCur)] (c, ())) (preM 0 [(.b tyCur)] (c, ())) (postM 0 [(.b tyCur)] ((any2 c).2, ()) ++ []) (inpM 0 [(.b tyCur)]) (.c (.str (any2 c).1)) := by
  refine mcalls_of (T := ⟨[], [], [], [e_s_l1Below, e_s_l1Pick, e_s_l1Bytes, e_s_l2Name], none, fun _ => [], 1, [], []⟩) (L := L0) Try.func61 rfl rfl rfl (by kernel_rfl) (fun hwf hwm => ?_)
  refine Eq.mpr (β := (T2 ((cu c) ∧ (T2 (bif (eqI (below c 4).1 0) then (T2 ((((CurOk (below c 4).2 ∧ 0 < List.length ([(⟨#[]⟩ : ByteArray), (⟨#[47]⟩ : ByteArray), (⟨#[97, 47]⟩ : ByteArray), (⟨#[47, 97]⟩ : ByteArray), (⟨#[97, 47, 47, 98]⟩ : ByteArray), (⟨#[65]⟩ : ByteArray), (⟨#[97, 98, 99, 100, 101, 102, 103, 104, 105, 106, 107, 108]⟩ : ByteArray), (⟨#[97, 98, 99, 100, 101, 102, 103, 104, 105, 106, 107, 108, 109]⟩ : ByteArray), (⟨#[97, 32, 98]⟩ : ByteArray), (⟨#[97, 34, 98]⟩ : ByteArray), (⟨#[92]⟩ : ByteArray), (⟨#[120, 40, 121]⟩ : ByteArray), (⟨#[0]⟩ : ByteArray), (⟨#[49, 50, 51, 52, 53, 54, 55, 56, 57, 48, 49, 50, 51, 52, 53, 54, 55, 56, 57, 48, 49, 50, 51, 52, 53, 54, 55, 56, 57, 48, 49, 50, 51, 52, 53, 54, 55, 56, 57, 48]⟩ : ByteArray), (⟨#[49, 50, 51, 52, 53, 54, 55, 56, 57, 48, 49, 50, 51, 52, 53, 54, 55, 56, 57, 48, 49, 50, 51, 52, 53, 54, 55, 56, 57, 48, 49, 50, 51, 52, 53, 54, 55, 56, 57, 48, 49]⟩ : ByteArray), (⟨#[127]⟩ : ByteArray), (⟨#[126]⟩ : ByteArray)])) ∧ (((cuE (below c 4).2 (below c 4).2)) ∧ (([(⟨#[]⟩ : ByteArray), (⟨#[47]⟩ : ByteArray), (⟨#[97, 47]⟩ : ByteArray), (⟨#[47, 97]⟩ : ByteArray), (⟨#[97, 47, 47, 98]⟩ : ByteArray), (⟨#[65]⟩ : ByteArray), (⟨#[97, 98, 99, 100, 101, 102, 103, 104, 105, 106, 107, 108]⟩ : ByteArray), (⟨#[97, 98, 99, 100, 101, 102, 103, 104, 105, 106, 107, 108, 109]⟩ : ByteArray), (⟨#[97, 32, 98]⟩ : ByteArray), (⟨#[97, 34, 98]⟩ : ByteArray), (⟨#[92]⟩ : ByteArray), (⟨#[120, 40, 121]⟩ : ByteArray), (⟨#[0]⟩ : ByteArray), (⟨#[49, 50, 51, 52, 53, 54, 55, 56, 57, 48, 49, 50, 51, 52, 53, 54, 55, 56, 57, 48, 49, 50, 51, 52, 53, 54, 55, 56, 57, 48, 49, 50, 51, 52, 53, 54, 55, 56, 57, 48]⟩ : ByteArray), (⟨#[49, 50, 51, 52, 53, 54, 55, 56, 57, 48, 49, 50, 51, 52, 53, 54, 55, 56, 57, 48, 49, 50, 51, 52, 53, 54, 55, 56, 57, 48, 49, 50, 51, 52, 53, 54, 55, 56, 57, 48, 49]⟩ : ByteArray), (⟨#[127]⟩ : ByteArray), (⟨#[126]⟩ : ByteArray)]) = ([(⟨#[]⟩ : ByteArray), (⟨#[47]⟩ : ByteArray), (⟨#[97, 47]⟩ : ByteArray), (⟨#[47, 97]⟩ : ByteArray), (⟨#[97, 47, 47, 98]⟩ : ByteArray), (⟨#[65]⟩ : ByteArray), (⟨#[97, 98, 99, 100, 101, 102, 103, 104, 105, 106, 107, 108]⟩ : ByteArray), (⟨#[97, 98, 99, 100, 101, 102, 103, 104, 105, 106, 107, 108, 109]⟩ : ByteArray), (⟨#[97, 32, 98]⟩ : ByteArray), (⟨#[97, 34, 98]⟩ : ByteArray), (⟨#[92]⟩ : ByteArray), (⟨#[120, 40, 121]⟩ : ByteArray), (⟨#[0]⟩ : ByteArray), (⟨#[49, 50, 51, 52, 53, 54, 55, 56, 57, 48, 49, 50, 51, 52, 53, 54, 55, 56, 57, 48, 49, 50, 51, 52, 53, 54, 55, 56, 57, 48, 49, 50, 51, 52, 53, 54, 55, 56, 57, 48]⟩ : ByteArray), (⟨#[49, 50, 51, 52, 53, 54, 55, 56, 57, 48, 49, 50, 51, 52, 53, 54, 55, 56, 57, 48, 49, 50, 51, 52, 53, 54, 55, 56, 57, 48, 49, 50, 51, 52, 53, 54, 55, 56, 57, 48, 49]⟩ : ByteArray), (⟨#[127]⟩ : ByteArray), (⟨#[126]⟩ : ByteArray)])) ∧ True)) ∧ true = true) ∧ ∀ r0 : List ByteArray, r0 = [(⟨#[]⟩ : ByteArray), (⟨#[47]⟩ : ByteArray), (⟨#[97, 47]⟩ : ByteArray), (⟨#[47, 97]⟩ : ByteArray), (⟨#[97, 47, 47, 98]⟩ : ByteArray), (⟨#[65]⟩ : ByteArray), (⟨#[97, 98, 99, 100, 101, 102, 103, 104, 105, 106, 107, 108]⟩ : ByteArray), (⟨#[97, 98, 99, 100, 101, 102, 103, 104, 105, 106, 107, 108, 109]⟩ : ByteArray), (⟨#[97, 32, 98]⟩ : ByteArray), (⟨#[97, 34, 98]⟩ : ByteArray), (⟨#[92]⟩ : ByteArray), (⟨#[120, 40, 121]⟩ : ByteArray), (⟨#[0]⟩ : ByteArray), (⟨#[49, 50, 51, 52, 53, 54, 55, 56, 57, 48, 49, 50, 51, 52, 53, 54, 55, 56, 57, 48, 49, 50, 51, 52, 53, 54, 55, 56, 57, 48, 49, 50, 51, 52, 53, 54, 55, 56, 57, 48]⟩ : ByteArray), (⟨#[49, 50, 51, 52, 53, 54, 55, 56, 57, 48, 49, 50, 51, 52, 53, 54, 55, 56, 57, 48, 49, 50, 51, 52, 53, 54, 55, 56, 57, 48, 49, 50, 51, 52, 53, 54, 55, 56, 57, 48, 49]⟩ : ByteArray), (⟨#[127]⟩ : ByteArray), (⟨#[126]⟩ : ByteArray)] → (True ∧ (((((cuE (pick (below c 4).2 ([(⟨#[]⟩ : ByteArray), (⟨#[47]⟩ : ByteArray), (⟨#[97, 47]⟩ : ByteArray), (⟨#[47, 97]⟩ : ByteArray), (⟨#[97, 47, 47, 98]⟩ : ByteArray), (⟨#[65]⟩ : ByteArray), (⟨#[97, 98, 99, 100, 101, 102, 103, 104, 105, 106, 107, 108]⟩ : ByteArray), (⟨#[97, 98, 99, 100, 101, 102, 103, 104, 105, 106, 107, 108, 109]⟩ : ByteArray), (⟨#[97, 32, 98]⟩ : ByteArray), (⟨#[97, 34, 98]⟩ : ByteArray), (⟨#[92]⟩ : ByteArray), (⟨#[120, 40, 121]⟩ : ByteArray), (⟨#[0]⟩ : ByteArray), (⟨#[49, 50, 51, 52, 53, 54, 55, 56, 57, 48, 49, 50, 51, 52, 53, 54, 55, 56, 57, 48, 49, 50, 51, 52, 53, 54, 55, 56, 57, 48, 49, 50, 51, 52, 53, 54, 55, 56, 57, 48]⟩ : ByteArray), (⟨#[49, 50, 51, 52, 53, 54, 55, 56, 57, 48, 49, 50, 51, 52, 53, 54, 55, 56, 57, 48, 49, 50, 51, 52, 53, 54, 55, 56, 57, 48, 49, 50, 51, 52, 53, 54, 55, 56, 57, 48, 49]⟩ : ByteArray), (⟨#[127]⟩ : ByteArray), (⟨#[126]⟩ : ByteArray)])).2 (any2 c).2)) ∧ True) ∧ (true = true ∧ leC (.str (pick (below c 4).2 ([(⟨#[]⟩ : ByteArray), (⟨#[47]⟩ : ByteArray), (⟨#[97, 47]⟩ : ByteArray), (⟨#[47, 97]⟩ : ByteArray), (⟨#[97, 47, 47, 98]⟩ : ByteArray), (⟨#[65]⟩ : ByteArray), (⟨#[97, 98, 99, 100, 101, 102, 103, 104, 105, 106, 107, 108]⟩ : ByteArray), (⟨#[97, 98, 99, 100, 101, 102, 103, 104, 105, 106, 107, 108, 109]⟩ : ByteArray), (⟨#[97, 32, 98]⟩ : ByteArray), (⟨#[97, 34, 98]⟩ : ByteArray), (⟨#[92]⟩ : ByteArray), (⟨#[120, 40, 121]⟩ : ByteArray), (⟨#[0]⟩ : ByteArray), (⟨#[49, 50, 51, 52, 53, 54, 55, 56, 57, 48, 49, 50, 51, 52, 53, 54, 55, 56, 57, 48, 49, 50, 51, 52, 53, 54, 55, 56, 57, 48, 49, 50, 51, 52, 53, 54, 55, 56, 57, 48]⟩ : ByteArray), (⟨#[49, 50, 51, 52, 53, 54, 55, 56, 57, 48, 49, 50, 51, 52, 53, 54, 55, 56, 57, 48, 49, 50, 51, 52, 53, 54, 55, 56, 57, 48, 49, 50, 51, 52, 53, 54, 55, 56, 57, 48, 49]⟩ : ByteArray), (⟨#[127]⟩ : ByteArray), (⟨#[126]⟩ : ByteArray)])).1) (.str (any2 c).1))) ∧ true = true)))) else (T2 (bif (eqI (below c 4).1 1) then (T2 ((cu (below c 4).2) ∧ ((((CurOk (below (below c 4).2 4).2 ∧ by3 (below (below c 4).2 4).1) ∧ (((cuE (below (below c 4).2 4).2 (below (below c 4).2 4).2)) ∧ True)) ∧ true = true) ∧ (List.length (bytes1 (below (below c 4).2 4).2 (Int.toNat (below (below c 4).2 4).1)).1 ≤ maxLen ∧ (True ∧ (((((cuE (bytes1 (below (below c 4).2 4).2 (Int.toNat (below (below c 4).2 4).1)).2 (any2 c).2)) ∧ True) ∧ (true = true ∧ leC (.str (bytesOf (bytes1 (below (below c 4).2 4).2 (Int.toNat (below (below c 4).2 4).1)).1)) (.str (any2 c).1))) ∧ true = true)))))) else (True ∧ ((cu (below c 4).2) ∧ (True ∧ (((((cuE (name2 (below c 4).2).2 (any2 c).2)) ∧ True) ∧ (true = true ∧ leC (.str (name2 (below c 4).2).1) (.str (any2 c).1))) ∧ true = true))))))))))) (by kernel_rfl) ?_
  unfold T2
  simp only [SIU, cuE_eq, cu_eq, eq_self]
  repeat' (with_reducible first | exact trivial | apply And.intro | apply bifI | intro _)
  all_goals first
    | (with_reducible trivial)
    | omega
    | (with_reducible infer_instance)
    | (simp only [any2, cond_true, cond_false, Int.toNat_natCast, *]; done)
    | (subst_vars; simp only [any2, cond_true, cond_false, Int.toNat_natCast, *]; done)
    | (simp only [any2, cond_true, cond_false, *]; exact leC_refl)
    | exact any2_b _
    | exact Nat.le_trans (any2_l _ _) (by decide)
    | exact Nat.le_trans (any2_s _ _) (by decide)
def e_s_l2Any : MEntry Try.prog := ⟨61, [(.b tyCur)], fun x => CurOk x.1, fun x => ((any2 x.1).2, ()), fun x => .c (.str (any2 x.1).1), fun _ => [], fun x hx => m_s_l2Any x.1 hx, Try.call61⟩
def token3 (c : GCur) : GToken × GCur := (bif (eqI (below c 5).1 0) then ((3, (⟨#[]⟩ : ByteArray)), (below c 5).2) else (bif (eqI (below c 5).1 1) then ((4, (⟨#[]⟩ : ByteArray)), (below c 5).2) else (bif (eqI (below c 5).1 2) then ((2, (any2 (below c 5).2).1), (any2 (below c 5).2).2) else ((1, (pick (below c 5).2 ([(⟨#[65, 49]⟩ : ByteArray), (⟨#[102, 101, 116, 99, 104]⟩ : ByteArray), (⟨#[49, 58, 42]⟩ : ByteArray), (⟨#[43, 102, 108, 97, 103, 115]⟩ : ByteArray), (⟨#[125]⟩ : ByteArray), (⟨#[120]⟩ : ByteArray), (⟨#[105, 110, 98, 111, 120]⟩ : ByteArray)])).1), (pick (below c 5).2 ([(⟨#[65, 49]⟩ : ByteArray), (⟨#[102, 101, 116, 99, 104]⟩ : ByteArray), (⟨#[49, 58, 42]⟩ : ByteArray), (⟨#[43, 102, 108, 97, 103, 115]⟩ : ByteArray), (⟨#[125]⟩ : ByteArray), (⟨#[120]⟩ : ByteArray), (⟨#[105, 110, 98, 111, 120]⟩ : ByteArray)])).2))))
instance token3_ok (c : GCur) [CurOk c] : CurOk (token3 c).2 := by
  unfold token3
  simp only [bif_if]
  repeat' split
  all_goals infer_instance
theorem m_s_l3Token (c : GCur) (hpre : CurOk c) : MCalls Try.prog 74 (argsM 0 [(.b tyCur)] (c, ())) (preM 0 [(.b tyCur)] (c, ())) (postM 0 [(.b tyCur)] ((token3 c).2, ()) ++ []) (inpM 0 [(.b tyCur)]) (.ag [.int .i64 (token3 c).1.1, .str (token3 c).1.2]) := by
  refine mcalls_of (T := ⟨[], [], [], [e_s_l1Below, e_s_l2Any, e_s_l1Pick], none, fun _ => [], 1, [], []⟩) (L := L0) Try.func74 rfl rfl rfl (by kernel_rfl) (fun hwf hwm => ?_)
  refine Eq.mpr (β := (T2 ((cu c) ∧ (T2 (bif (eqI (below c 5).1 0) then (T2 (((((cuE (below c 5).2 (token3 c).2)) ∧ True) ∧ (((true = true ∧ leC (.int .i64 3) (.int .i64 (token3 c).1.1)) ∧ (true = true ∧ leC (.str (⟨#[]⟩ : ByteArray)) (.str (token3 c).1.2)) ∧ True))) ∧ true = true)) else (T2 (bif (eqI (below c 5).1 1) then (T2 (((((cuE (below c 5).2 (token3 c).2)) ∧ True) ∧ (((true = true ∧ leC (.int .i64 4) (.int .i64 (token3 c).1.1)) ∧ (true = true ∧ leC (.str (⟨#[]⟩ : ByteArray)) (.str (token3 c).1.2)) ∧ True))) ∧ true = true)) else (T2 (bif (eqI (below c 5).1 2) then (True ∧ ((cu (below c 5).2) ∧ (T2 (((((cuE (any2 (below c 5).2).2 (token3 c).2)) ∧ True) ∧ (((true = true ∧ leC (.int .i64 2) (.int .i64 (token3 c).1.1)) ∧ (true = true ∧ leC (.str (any2 (below c 5).2).1) (.str (token3 c).1.2)) ∧ True))) ∧ true = true)))) else (T2 ((((CurOk (below c 5).2 ∧ 0 < List.length ([(⟨#[65, 49]⟩ : ByteArray), (⟨#[102, 101, 116, 99, 104]⟩ : ByteArray), (⟨#[49, 58, 42]⟩ : ByteArray), (⟨#[43, 102, 108, 97, 103, 115]⟩ : ByteArray), (⟨#[125]⟩ : ByteArray), (⟨#[120]⟩ : ByteArray), (⟨#[105, 110, 98, 111, 120]⟩ : ByteArray)])) ∧ (((cuE (below c 5).2 (below c 5).2)) ∧ (([(⟨#[65, 49]⟩ : ByteArray), (⟨#[102, 101, 116, 99, 104]⟩ : ByteArray), (⟨#[49, 58, 42]⟩ : ByteArray), (⟨#[43, 102, 108, 97, 103, 115]⟩ : ByteArray), (⟨#[125]⟩ : ByteArray), (⟨#[120]⟩ : ByteArray), (⟨#[105, 110, 98, 111, 120]⟩ : ByteArray)]) = ([(⟨#[65, 49]⟩ : ByteArray), (⟨#[102, 101, 116, 99, 104]⟩ : ByteArray), (⟨#[49, 58, 42]⟩ : ByteArray), (⟨#[43, 102, 108, 97, 103, 115]⟩ : ByteArray), (⟨#[125]⟩ : ByteArray), (⟨#[120]⟩ : ByteArray), (⟨#[105, 110, 98, 111, 120]⟩ : ByteArray)])) ∧ True)) ∧ true = true) ∧ ∀ r0 : List ByteArray, r0 = [(⟨#[65, 49]⟩ : ByteArray), (⟨#[102, 101, 116, 99, 104]⟩ : ByteArray), (⟨#[49, 58, 42]⟩ : ByteArray), (⟨#[43, 102, 108, 97, 103, 115]⟩ : ByteArray), (⟨#[125]⟩ : ByteArray), (⟨#[120]⟩ : ByteArray), (⟨#[105, 110, 98, 111, 120]⟩ : ByteArray)] → (T2 (((((cuE (pick (below c 5).2 ([(⟨#[65, 49]⟩ : ByteArray), (⟨#[102, 101, 116, 99, 104]⟩ : ByteArray), (⟨#[49, 58, 42]⟩ : ByteArray), (⟨#[43, 102, 108, 97, 103, 115]⟩ : ByteArray), (⟨#[125]⟩ : ByteArray), (⟨#[120]⟩ : ByteArray), (⟨#[105, 110, 98, 111, 120]⟩ : ByteArray)])).2 (token3 c).2)) ∧ True) ∧ (((true = true ∧ leC (.int .i64 1) (.int .i64 (token3 c).1.1)) ∧ (true = true ∧ leC (.str (pick (below c 5).2 ([(⟨#[65, 49]⟩ : ByteArray), (⟨#[102, 101, 116, 99, 104]⟩ : ByteArray), (⟨#[49, 58, 42]⟩ : ByteArray), (⟨#[43, 102, 108, 97, 103, 115]⟩ : ByteArray), (⟨#[125]⟩ : ByteArray), (⟨#[120]⟩ : ByteArray), (⟨#[105, 110, 98, 111, 120]⟩ : ByteArray)])).1) (.str (token3 c).1.2)) ∧ True))) ∧ true = true))))))))))))) (by kernel_rfl) ?_
  unfold T2
  simp only [SIU, cuE_eq, cu_eq, eq_self]
  repeat' (with_reducible first | exact trivial | apply And.intro | apply bifI | intro _)
  all_goals first
    | (with_reducible trivial)
    | omega
    | (with_reducible infer_instance)
    | (simp only [token3, cond_true, cond_false, Int.toNat_natCast, *]; done)
    | (subst_vars; simp only [token3, cond_true, cond_false, Int.toNat_natCast, *]; done)
    | (simp only [token3, cond_true, cond_false, *]; exact leC_refl)
def e_s_l3Token : MEntry Try.prog := ⟨74, [(.b tyCur)], fun x => CurOk x.1, fun x => ((token3 x.1).2, ()), fun x => .ag [.int .i64 (token3 x.1).1.1, .str (token3 x.1).1.2], fun _ => [], fun x hx => m_s_l3Token x.1 hx, Try.call74⟩
def bent3 (c : GCur) : GToken × GCur := (bif (eqI (below (token3 c).2 8).1 0) then (((IntKind.wrap .i64 ((below (below (token3 c).2 8).2 7).1 - 1)), (token3 c).1.2), (below (below (token3 c).2 8).2 7).2) else (bif (eqI (below (token3 c).2 8).1 1) then (((token3 c).1.1, (any2 (below (token3 c).2 8).2).1), (any2 (below (token3 c).2 8).2).2) else (bif (eqI (below (token3 c).2 8).1 2) then (((token3 c).1.1, ((ByteArray.extract (⟨#[49, 50, 51, 52, 53, 54, 55, 56, 57, 48, 49, 50, 51, 52, 53, 54, 55, 56, 57, 48, 49, 50, 51, 52, 53, 54, 55, 56, 57, 48, 49, 50, 51, 52, 53, 54, 55, 56, 57, 48, 49]⟩ : ByteArray) (Int.toNat 0) (Int.toNat (IntKind.wrap .i64 (40 + (below (below (token3 c).2 8).2 2).1)))) ++ (pick (below (below (token3 c).2 8).2 2).2 ([(⟨#[]⟩ : ByteArray), (⟨#[10]⟩ : ByteArray)])).1)), (pick (below (below (token3 c).2 8).2 2).2 ([(⟨#[]⟩ : ByteArray), (⟨#[10]⟩ : ByteArray)])).2) else ((token3 c).1, (below (token3 c).2 8).2))))
instance bent3_ok (c : GCur) [CurOk c] : CurOk (bent3 c).2 := by
  unfold bent3
  simp only [bif_if]
  repeat' split
  all_goals infer_instance
def k01cfhc (c : GCur) : Prop := (ByteArray.size (ByteArray.extract (⟨#[49, 50, 51, 52, 53, 54, 55, 56, 57, 48, 49, 50, 51, 52, 53, 54, 55, 56, 57, 48, 49, 50, 51, 52, 53, 54, 55, 56, 57, 48, 49, 50, 51, 52, 53, 54, 55, 56, 57, 48, 49]⟩ : ByteArray) (Int.toNat 0) (Int.toNat (IntKind.wrap .i64 (40 + (below (below (token3 c).2 8).2 2).1)))) + ByteArray.size (pick (below (below (token3 c).2 8).2 2).2 ([(⟨#[]⟩ : ByteArray), (⟨#[10]⟩ : ByteArray)])).1 ≤ maxLen ∧ (T4 (((((cuE (pick (below (below (token3 c).2 8).2 2).2 ([(⟨#[]⟩ : ByteArray), (⟨#[10]⟩ : ByteArray)])).2 (bent3 c).2)) ∧ True) ∧ (((true = true ∧ leC (.int .i64 (token3 c).1.1) (.int .i64 (bent3 c).1.1)) ∧ (true = true ∧ leC (.str ((ByteArray.extract (⟨#[49, 50, 51, 52, 53, 54, 55, 56, 57, 48, 49, 50, 51, 52, 53, 54, 55, 56, 57, 48, 49, 50, 51, 52, 53, 54, 55, 56, 57, 48, 49, 50, 51, 52, 53, 54, 55, 56, 57, 48, 49]⟩ : ByteArray) (Int.toNat 0) (Int.toNat (IntKind.wrap .i64 (40 + (below (below (token3 c).2 8).2 2).1)))) ++ (pick (below (below (token3 c).2 8).2 2).2 ([(⟨#[]⟩ : ByteArray), (⟨#[10]⟩ : ByteArray)])).1)) (.str (bent3 c).1.2)) ∧ True))) ∧ true = true)))
def k21cfhc (c : GCur) : Prop := ((0 : Int) ≤ 0 ∧ (0 : Int) ≤ (IntKind.wrap .i64 (40 + (below (below (token3 c).2 8).2 2).1)) ∧ ((IntKind.wrap .i64 (40 + (below (below (token3 c).2 8).2 2).1)) : Int) ≤ ((ByteArray.size (⟨#[49, 50, 51, 52, 53, 54, 55, 56, 57, 48, 49, 50, 51, 52, 53, 54, 55, 56, 57, 48, 49, 50, 51, 52, 53, 54, 55, 56, 57, 48, 49, 50, 51, 52, 53, 54, 55, 56, 57, 48, 49]⟩ : ByteArray) : Nat) : Int))
def k31cfhc (c : GCur) : Prop := (((CurOk (below (below (token3 c).2 8).2 2).2 ∧ 0 < List.length ([(⟨#[]⟩ : ByteArray), (⟨#[10]⟩ : ByteArray)])) ∧ (((cuE (below (below (token3 c).2 8).2 2).2 (below (below (token3 c).2 8).2 2).2)) ∧ (([(⟨#[]⟩ : ByteArray), (⟨#[10]⟩ : ByteArray)]) = ([(⟨#[]⟩ : ByteArray), (⟨#[10]⟩ : ByteArray)])) ∧ True)) ∧ true = true)
def k11cfhc (c : GCur) : Prop := (True ∧ (((k21cfhc c) ∧ ((k31cfhc c) ∧ ∀ r0 : List ByteArray, r0 = [(⟨#[]⟩ : ByteArray), (⟨#[10]⟩ : ByteArray)] → (k01cfhc c))) ∧ (((k31cfhc c) ∧ ∀ r0 : List ByteArray, r0 = [(⟨#[]⟩ : ByteArray), (⟨#[10]⟩ : ByteArray)] → ((k21cfhc c) ∧ (k01cfhc c))))))
theorem m_s_l3Bent (c : GCur) (hpre : CurOk c) : MCalls Try.prog 41 (argsM 0 [(.b tyCur)] (c, ())) (preM 0 [(.b tyCur)] (c, ())) (postM 0 [(.b tyCur)] ((bent3 c).2, ()) ++ []) (inpM 0 [(.b tyCur)]) (.ag [.int .i64 (bent3 c).1.1, .str (bent3 c).1.2]) := by
  refine mcalls_of (T := ⟨[], [], [], [e_s_l3Token, e_s_l1Below, e_s_l2Any, e_s_l1Pick], none, fun _ => [], 1, [], []⟩) (L := L0) Try.func41 rfl rfl rfl (by kernel_rfl) (fun hwf hwm => ?_)
  refine Eq.mpr (β := (T2 ((cu c) ∧ (T3 ((cu (token3 c).2) ∧ (T2 (bif (eqI (below (token3 c).2 8).1 0) then (True ∧ ((cu (below (token3 c).2 8).2) ∧ (T5 (((((cuE (below (below (token3 c).2 8).2 7).2 (bent3 c).2)) ∧ True) ∧ (((true = true ∧ leC (.int .i64 (IntKind.wrap .i64 ((below (below (token3 c).2 8).2 7).1 - 1))) (.int .i64 (bent3 c).1.1)) ∧ (true = true ∧ leC (.str (token3 c).1.2) (.str (bent3 c).1.2)) ∧ True))) ∧ true = true)))) else (T2 (bif (eqI (below (token3 c).2 8).1 1) then (True ∧ ((cu (below (token3 c).2 8).2) ∧ (T4 (((((cuE (any2 (below (token3 c).2 8).2).2 (bent3 c).2)) ∧ True) ∧ (((true = true ∧ leC (.int .i64 (token3 c).1.1) (.int .i64 (bent3 c).1.1)) ∧ (true = true ∧ leC (.str (any2 (below (token3 c).2 8).2).1) (.str (bent3 c).1.2)) ∧ True))) ∧ true = true)))) else (T2 (bif (eqI (below (token3 c).2 8).1 2) then ((true = true ∧ true = true) ∧ (T2 (((cu (below (token3 c).2 8).2) ∧ ((True ∧ (((k21cfhc c) ∧ (True ∧ ((k31cfhc c) ∧ ∀ r0 : List ByteArray, r0 = [(⟨#[]⟩ : ByteArray), (⟨#[10]⟩ : ByteArray)] → (k01cfhc c)))) ∧ ((k11cfhc c)))) ∧ ((True ∧ ((k11cfhc c) ∧ (((k31cfhc c) ∧ ∀ r0 : List ByteArray, r0 = [(⟨#[]⟩ : ByteArray), (⟨#[10]⟩ : ByteArray)] → (True ∧ ((k21cfhc c) ∧ (k01cfhc c)))))))))) ∧ ((True ∧ ((cu (below (token3 c).2 8).2) ∧ ((k11cfhc c) ∧ (((k31cfhc c) ∧ ∀ r0 : List ByteArray, r0 = [(⟨#[]⟩ : ByteArray), (⟨#[10]⟩ : ByteArray)] → (True ∧ ((k21cfhc c) ∧ (k01cfhc c)))))))))))) else (T2 (((((cuE (below (token3 c).2 8).2 (bent3 c).2)) ∧ True) ∧ (((true = true ∧ leC (.int .i64 (token3 c).1.1) (.int .i64 (bent3 c).1.1)) ∧ (true = true ∧ leC (.str (token3 c).1.2) (.str (bent3 c).1.2)) ∧ True))) ∧ true = true))))))))))))) (by kernel_rfl) ?_
  unfold k11cfhc k31cfhc k21cfhc k01cfhc T2 T3 T4 T5
  simp only [SIU, cuE_eq, cu_eq, eq_self]
  repeat' (with_reducible first | exact trivial | apply And.intro | apply bifI | intro _)
  all_goals first
    | (with_reducible trivial)
    | omega
    | (with_reducible infer_instance)
    | (simp only [bent3, cond_true, cond_false, Int.toNat_natCast, *]; done)
    | (subst_vars; simp only [bent3, cond_true, cond_false, Int.toNat_natCast, *]; done)
    | (simp only [bent3, cond_true, cond_false, *]; exact leC_refl)
    | exact (b40 _).1
    | exact Int.le_trans (b40 _).2 (by decide)
    | ((try rw [ByteArray.size_append]); rw [ByteArray.size_extract]; refine Nat.le_trans (Nat.add_le_add (Nat.le_trans (Nat.sub_le _ _) (Nat.min_le_right _ _)) (pick_size (n := 100) (by decide) (by decide))) (by decide))
def e_s_l3Bent : MEntry Try.prog := ⟨41, [(.b tyCur)], fun x => CurOk x.1, fun x => ((bent3 x.1).2, ()), fun x => .ag [.int .i64 (bent3 x.1).1.1, .str (bent3 x.1).1.2], fun _ => [], fun x hx => m_s_l3Bent x.1 hx, Try.call41⟩
theorem right6_len (c : GCur) : (right6 c).1.2.length ≤ 3 := by
  have hb := below_b (c := (once c 5).2) (n := 3) (by decide)
  cases h : (once c 5).1 with
  | true =>
    rw [right6_y h]
    exact Nat.zero_le _
  | false =>
    rw [right6_n h]
    show (scs6 _ _).1.length ≤ 3
    rw [scs6_len]
    omega
theorem scope6_nm (c : GCur) : (scope6 c).1.2.1.length ≤ 2 := by
  unfold scope6
  simp only [bif_if]
  repeat' split
  · exact Nat.le_refl _
  · exact (show 1 ≤ 2 by decide)
  · exact Nat.zero_le _
theorem scs6_nm (c : GCur) : ∀ k, ∀ z ∈ (scs6 c k).1, z.2.1.length ≤ 2
  | 0, z, h => by cases h
  | k + 1, z, h => by
    unfold scs6 at h
    rcases List.mem_append.1 h with h | h
    · exact scs6_nm c k z h
    · rw [List.mem_singleton.1 h]
      exact scope6_nm _
theorem nth_out {t : Ty} {xs : List t.den} {k : Nat} (h : xs.length ≤ k) : nth t xs k = t.dflt := by
  unfold nth
  rw [List.getD_eq_getElem?_getD, List.getElem?_eq_none h]
  rfl
theorem right6_nm (c : GCur) (k : Nat) : (nth_Scope (right6 c).1.2 k).2.1.length ≤ 2 := by
  have key : ∀ z ∈ (right6 c).1.2, z.2.1.length ≤ 2 := by
    cases h : (once c 5).1 with
    | true =>
      rw [right6_y h]
      intro z hz
      cases hz
    | false =>
      rw [right6_n h]
      exact scs6_nm _ _
  by_cases hk : k < (right6 c).1.2.length
  · exact key _ (List.mem_of_getElem? (nth_getElem? (t := tyScope) hk))
  · have e : nth_Scope (right6 c).1.2 k = Ty.dflt tyScope := nth_out (t := tyScope) (Nat.le_of_not_lt hk)
    rw [e]
    exact Nat.zero_le _
def bent6 (c : GCur) : GFilter × GCur := (bif (eqI (below (right6 c).2 10).1 0) then (((!(right6 c).1.1), (right6 c).1.2), (below (right6 c).2 10).2) else (bif (eqI (below (right6 c).2 10).1 1) then (((right6 c).1.1, ((right6 c).1.2 ++ [(scope6 (below (right6 c).2 10).2).1])), (scope6 (below (right6 c).2 10).2).2) else (bif (eqI (below (right6 c).2 10).1 2) then (bif (gtI ((List.length (right6 c).1.2 : Nat) : Int) 0) then (((right6 c).1.1, (List.set (right6 c).1.2 (Int.toNat 0) ((nth_Scope (right6 c).1.2 (Int.toNat 0)).1, ((nth_Scope (right6 c).1.2 (Int.toNat 0)).2.1, (pickInt (below (right6 c).2 10).2 ([0, 15, 16, (-1)] : List Int)).1)))), (pickInt (below (right6 c).2 10).2 ([0, 15, 16, (-1)] : List Int)).2) else ((right6 c).1, (below (right6 c).2 10).2)) else (bif (eqI (below (right6 c).2 10).1 3) then (bif (gtI ((List.length (right6 c).1.2 : Nat) : Int) 0) then (((right6 c).1.1, (List.set (right6 c).1.2 (Int.toNat 0) ((nth_Scope (right6 c).1.2 (Int.toNat 0)).1, (((nth_Scope (right6 c).1.2 (Int.toNat 0)).2.1 ++ [(any2 (below (right6 c).2 10).2).1]), (nth_Scope (right6 c).1.2 (Int.toNat 0)).2.2)))), (any2 (below (right6 c).2 10).2).2) else ((right6 c).1, (below (right6 c).2 10).2)) else (bif (eqI (below (right6 c).2 10).1 4) then (bif (gtI ((List.length (right6 c).1.2 : Nat) : Int) 0) then (((right6 c).1.1, (List.set (right6 c).1.2 (Int.toNat 0) ((IntKind.wrap .i64 ((below (below (right6 c).2 10).2 7).1 - 1)), (nth_Scope (right6 c).1.2 (Int.toNat 0)).2))), (below (below (right6 c).2 10).2 7).2) else ((right6 c).1, (below (right6 c).2 10).2)) else ((right6 c).1, (below (right6 c).2 10).2))))))
instance bent6_ok (c : GCur) [CurOk c] : CurOk (bent6 c).2 := by
  unfold bent6
  simp only [bif_if]
  repeat' split
  all_goals infer_instance
def k6ncw9f (c : GCur) : Prop := ((3 : Nat) = 3 ∧ (0 : Int) ≤ 0 ∧ (0 : Int) < ((List.length (right6 c).1.2 : Nat) : Int))
def k16ncw9f (c : GCur) : Prop := (true = true ∧ leC (.bool (right6 c).1.1) (.bool (bent6 c).1.1))
def k0ncw9f (c : GCur) : Prop := ((k6ncw9f c) ∧ (True ∧ (((Int.toNat 0) : Nat) = (Int.toNat 0) ∧ (T2 (((((cuE (any2 (below (right6 c).2 10).2).2 (bent6 c).2)) ∧ True) ∧ (((k16ncw9f c) ∧ ((List.set (right6 c).1.2 (Int.toNat 0) ((nth_Scope (right6 c).1.2 (Int.toNat 0)).1, (((nth_Scope (right6 c).1.2 (Int.toNat 0)).2.1 ++ [(any2 (below (right6 c).2 10).2).1]), (nth_Scope (right6 c).1.2 (Int.toNat 0)).2.2))) = (bent6 c).1.2) ∧ True))) ∧ true = true)))))
def k1ncw9f (c : GCur) : Prop := (True ∧ List.length (nth_Scope (right6 c).1.2 (Int.toNat 0)).2.1 + List.length ([(any2 (below (right6 c).2 10).2).1]) ≤ rowMax)
def k14ncw9f (c : GCur) : Prop := (True ∧ ((k1ncw9f c) ∧ (k0ncw9f c)))
def k4ncw9f (c : GCur) : Prop := ((True ∧ (k14ncw9f c)) ∧ ((True ∧ ((k14ncw9f c) ∧ (((k1ncw9f c) ∧ (True ∧ (k0ncw9f c))))))))
def k7ncw9f (c : GCur) : Prop := ((True ∧ ((True ∧ ((cu (below (right6 c).2 10).2) ∧ (k14ncw9f c))) ∧ (((cu (below (right6 c).2 10).2) ∧ (True ∧ (k14ncw9f c)))))) ∧ (((cu (below (right6 c).2 10).2) ∧ (T2 (k14ncw9f c)))))
def k11ncw9f (c : GCur) : Prop := (True ∧ ((True ∧ ((True ∧ ((cu (below (right6 c).2 10).2) ∧ (k14ncw9f c))) ∧ (((cu (below (right6 c).2 10).2) ∧ (True ∧ (k14ncw9f c)))))) ∧ ((True ∧ ((True ∧ ((cu (below (right6 c).2 10).2) ∧ (k14ncw9f c))) ∧ (((cu (below (right6 c).2 10).2) ∧ (k4ncw9f c))))) ∧ (((cu (below (right6 c).2 10).2) ∧ (True ∧ (k4ncw9f c)))))))
def k2ncw9f (c : GCur) : Prop := (True ∧ ((True ∧ (((k6ncw9f c) ∧ (k7ncw9f c)) ∧ (((cu (below (right6 c).2 10).2) ∧ ((k6ncw9f c) ∧ (T2 (k14ncw9f c))))))) ∧ (((k6ncw9f c) ∧ ((True ∧ (k7ncw9f c)) ∧ ((k11ncw9f c) ∧ (((cu (below (right6 c).2 10).2) ∧ (T2 (k4ncw9f c))))))) ∧ (((cu (below (right6 c).2 10).2) ∧ ((k6ncw9f c) ∧ (T2 (k4ncw9f c))))))))
def k3ncw9f (c : GCur) : Prop := ((k6ncw9f c) ∧ (T2 (∀ r1 : List GScope, r1 = (List.set (right6 c).1.2 (Int.toNat 0) ((nth_Scope (right6 c).1.2 (Int.toNat 0)).1, ((nth_Scope (right6 c).1.2 (Int.toNat 0)).2.1, (pickInt (below (right6 c).2 10).2 ([0, 15, 16, (-1)] : List Int)).1))) → (T2 (((((cuE (pickInt (below (right6 c).2 10).2 ([0, 15, 16, (-1)] : List Int)).2 (bent6 c).2)) ∧ True) ∧ (((k16ncw9f c) ∧ (r1 = (bent6 c).1.2) ∧ True))) ∧ true = true)))))
def k5ncw9f (c : GCur) : Prop := (True ∧ ((True ∧ List.length (right6 c).1.2 + List.length ([(scope6 (below (right6 c).2 10).2).1]) ≤ rowMax) ∧ (T4 (((((cuE (scope6 (below (right6 c).2 10).2).2 (bent6 c).2)) ∧ True) ∧ (((k16ncw9f c) ∧ (((right6 c).1.2 ++ [(scope6 (below (right6 c).2 10).2).1]) = (bent6 c).1.2) ∧ True))) ∧ true = true))))
def k8ncw9f (c : GCur) : Prop := (((CurOk (below (right6 c).2 10).2 ∧ 0 < List.length ([0, 15, 16, (-1)] : List Int)) ∧ (((cuE (below (right6 c).2 10).2 (below (right6 c).2 10).2)) ∧ (([0, 15, 16, (-1)] : List Int) = ([0, 15, 16, (-1)] : List Int)) ∧ True)) ∧ true = true)
def k9ncw9f (c : GCur) : Prop := (True ∧ ((k6ncw9f c) ∧ (T2 (∀ r0 : List GScope, r0 = (List.set (right6 c).1.2 (Int.toNat 0) ((IntKind.wrap .i64 ((below (below (right6 c).2 10).2 7).1 - 1)), (nth_Scope (right6 c).1.2 (Int.toNat 0)).2)) → (T2 (((((cuE (below (below (right6 c).2 10).2 7).2 (bent6 c).2)) ∧ True) ∧ (((k16ncw9f c) ∧ (r0 = (bent6 c).1.2) ∧ True))) ∧ true = true))))))
def k10ncw9f (c : GCur) : Prop := ((True ∧ (k4ncw9f c)) ∧ ((True ∧ ((True ∧ ((k14ncw9f c) ∧ (((k1ncw9f c) ∧ (True ∧ (k0ncw9f c)))))) ∧ (((k1ncw9f c) ∧ (T2 (k0ncw9f c))))))))
def k12ncw9f (c : GCur) : Prop := (T2 (((((cuE (below (right6 c).2 10).2 (bent6 c).2)) ∧ True) ∧ (((k16ncw9f c) ∧ ((right6 c).1.2 = (bent6 c).1.2) ∧ True))) ∧ true = true))
def k13ncw9f (c : GCur) : Prop := (True ∧ ((True ∧ (((k6ncw9f c) ∧ (k7ncw9f c)) ∧ (((cu (below (right6 c).2 10).2) ∧ ((k6ncw9f c) ∧ (T2 (k14ncw9f c))))))) ∧ (((cu (below (right6 c).2 10).2) ∧ (True ∧ ((k6ncw9f c) ∧ (T2 (k14ncw9f c))))))))
def k15ncw9f (c : GCur) : Prop := (True ∧ ((True ∧ ((k8ncw9f c) ∧ ∀ r0 : List Int, r0 = ([0, 15, 16, (-1)] : List Int) → (k3ncw9f c))) ∧ (((k8ncw9f c) ∧ ∀ r0 : List Int, r0 = ([0, 15, 16, (-1)] : List Int) → (True ∧ (k3ncw9f c))))))
theorem m_s_l6Bent (c : GCur) (hpre : CurOk c) : MCalls Try.prog 27 (argsM 0 [(.b tyCur)] (c, ())) (preM 0 [(.b tyCur)] (c, ())) (postM 0 [(.b tyCur)] ((bent6 c).2, ()) ++ [.row tyScope (bent6 c).1.2 0 0 none]) (inpM 0 [(.b tyCur)]) (.ag [.bool (bent6 c).1.1, .row 1 0]) := by
  refine mcalls_of (T := ⟨[], [], [], [e_s_l6Right, e_s_l1Below, e_s_l6Scope, e_s_l1PickInt, e_s_l2Any], none, fun _ => [], 1, [], []⟩) (L := L0) Try.func27 rfl rfl rfl (by kernel_rfl) (fun hwf hwm => ?_)
  refine Eq.mpr (β := (T2 ((cu c) ∧ (T3 ((cu (right6 c).2) ∧ (T2 (bif (eqI (below (right6 c).2 10).1 0) then (T7 (((((cuE (below (right6 c).2 10).2 (bent6 c).2)) ∧ True) ∧ (((true = true ∧ leC (.bool (!(right6 c).1.1)) (.bool (bent6 c).1.1)) ∧ ((right6 c).1.2 = (bent6 c).1.2) ∧ True))) ∧ true = true)) else (T2 (bif (eqI (below (right6 c).2 10).1 1) then ((true = true ∧ true = true) ∧ (True ∧ ((True ∧ ((True ∧ ((cu (below (right6 c).2 10).2) ∧ (k5ncw9f c))) ∧ (((cu (below (right6 c).2 10).2) ∧ ((True ∧ (k5ncw9f c)) ∧ ((True ∧ (k5ncw9f c)))))))) ∧ (((cu (below (right6 c).2 10).2) ∧ ((True ∧ ((True ∧ (k5ncw9f c)) ∧ ((True ∧ (k5ncw9f c))))) ∧ ((T2 (k5ncw9f c))))))))) else (T2 (bif (eqI (below (right6 c).2 10).1 2) then (T4 (bif (gtI ((List.length (right6 c).1.2 : Nat) : Int) 0) then ((true = true ∧ true = true) ∧ (True ∧ ((True ∧ ((T2 ((k8ncw9f c) ∧ ∀ r0 : List Int, r0 = ([0, 15, 16, (-1)] : List Int) → (k3ncw9f c))) ∧ ((k15ncw9f c)))) ∧ ((True ∧ ((k15ncw9f c) ∧ (((k8ncw9f c) ∧ ∀ r0 : List Int, r0 = ([0, 15, 16, (-1)] : List Int) → (T2 (k3ncw9f c)))))))))) else (k12ncw9f c))) else (T2 (bif (eqI (below (right6 c).2 10).1 3) then (T4 (bif (gtI ((List.length (right6 c).1.2 : Nat) : Int) 0) then ((true = true ∧ true = true) ∧ (True ∧ ((True ∧ ((True ∧ ((k13ncw9f c) ∧ (((cu (below (right6 c).2 10).2) ∧ (T2 ((k6ncw9f c) ∧ (T2 (k14ncw9f c)))))))) ∧ ((True ∧ ((k13ncw9f c) ∧ ((k2ncw9f c) ∧ (((cu (below (right6 c).2 10).2) ∧ (True ∧ ((k6ncw9f c) ∧ (T2 (k4ncw9f c))))))))) ∧ (((cu (below (right6 c).2 10).2) ∧ (T2 ((k6ncw9f c) ∧ (T2 (k4ncw9f c))))))))) ∧ ((True ∧ ((True ∧ ((k13ncw9f c) ∧ ((k2ncw9f c) ∧ (((cu (below (right6 c).2 10).2) ∧ (True ∧ ((k6ncw9f c) ∧ (T2 (k4ncw9f c))))))))) ∧ ((True ∧ ((k2ncw9f c) ∧ (((k6ncw9f c) ∧ ((True ∧ ((True ∧ (k7ncw9f c)) ∧ ((k11ncw9f c) ∧ (((cu (below (right6 c).2 10).2) ∧ (T2 (k4ncw9f c))))))) ∧ ((True ∧ ((k11ncw9f c) ∧ ((True ∧ ((True ∧ ((True ∧ ((cu (below (right6 c).2 10).2) ∧ (k14ncw9f c))) ∧ (((cu (below (right6 c).2 10).2) ∧ (k4ncw9f c))))) ∧ (((cu (below (right6 c).2 10).2) ∧ (k10ncw9f c))))) ∧ (((cu (below (right6 c).2 10).2) ∧ (True ∧ (k10ncw9f c))))))) ∧ (((cu (below (right6 c).2 10).2) ∧ (T2 (k10ncw9f c))))))) ∧ (((cu (below (right6 c).2 10).2) ∧ ((k6ncw9f c) ∧ (T2 (k10ncw9f c)))))))) ∧ (((cu (below (right6 c).2 10).2) ∧ (True ∧ ((k6ncw9f c) ∧ (T2 (k10ncw9f c))))))))) ∧ (((cu (below (right6 c).2 10).2) ∧ (T2 ((k6ncw9f c) ∧ (T2 (k10ncw9f c)))))))))) else (k12ncw9f c))) else (T2 (bif (eqI (below (right6 c).2 10).1 4) then (T4 (bif (gtI ((List.length (right6 c).1.2 : Nat) : Int) 0) then ((true = true ∧ true = true) ∧ (True ∧ ((True ∧ ((True ∧ ((cu (below (right6 c).2 10).2) ∧ (k9ncw9f c))) ∧ (((cu (below (right6 c).2 10).2) ∧ (True ∧ (k9ncw9f c)))))) ∧ (((cu (below (right6 c).2 10).2) ∧ (T2 (k9ncw9f c))))))) else (k12ncw9f c))) else (k12ncw9f c)))))))))))))))) (by kernel_rfl) ?_
  unfold k15ncw9f k13ncw9f k12ncw9f k10ncw9f k9ncw9f k8ncw9f k5ncw9f k3ncw9f k2ncw9f k11ncw9f k7ncw9f k4ncw9f k14ncw9f k1ncw9f k0ncw9f k16ncw9f k6ncw9f T2 T3 T4 T7
  have hr := right6_len c
  have hn := right6_nm c (Int.toNat 0)
  simp only [SIU, cuE_eq, cu_eq, eq_self]
  repeat' (with_reducible first | exact trivial | apply And.intro | apply bifI | intro _)
  all_goals first
    | (with_reducible trivial)
    | omega
    | (with_reducible infer_instance)
    | (simp only [bent6, cond_true, cond_false, Int.toNat_natCast, *]; done)
    | (subst_vars; simp only [bent6, cond_true, cond_false, Int.toNat_natCast, *]; done)
    | (simp only [bent6, cond_true, cond_false, *]; exact leC_refl)
    | (have hg := gtI_true.1 (by assumption : gtI ((List.length (right6 c).1.2 : Nat) : Int) 0 = true); omega)
    | (simp only [List.length_singleton]; unfold rowMax; omega)
def e_s_l6Bent : MEntry Try.prog := ⟨27, [(.b tyCur)], fun x => CurOk x.1, fun x => ((bent6 x.1).2, ()), fun x => .ag [.bool (bent6 x.1).1.1, .row 1 0], fun x => [.row tyScope (bent6 x.1).1.2 0 0 none], fun x hx => m_s_l6Bent x.1 hx, Try.call27⟩
def drawFT (code : List Int) : GFilter := (bent6 (newC code)).1
theorem b_s_DrawFilterTokens (code : List Int) : BCalls Try.prog 10 [.c (.hs .no (.int .u8) code)] (.ag [.bool (drawFT code).1, .row 0 0]) [.row tyScope (drawFT code).2 0 0 none] := by
  refine bc0 [e_s_l1New] [] [] [e_s_l6Bent] L0 Try.func10 (fun hwf => ?_)
  refine Eq.mpr (β := (True ∧ (True ∧ ((True ∧ true = true) ∧ ((cu (newC code)) ∧ (True ∧ ((((true = true ∧ leC (.bool (bent6 (newC code)).1.1) (.bool (drawFT code).1)) ∧ ((bent6 (newC code)).1.2 = (drawFT code).2) ∧ True)) ∧ true = true))))))) (by kernel_rfl) ?_
  haveI := newC_ok (code := code) hwf.1.1
  simp only [SIU, cuE_eq, cu_eq, eq_self]
  repeat' (with_reducible first | exact trivial | apply And.intro | apply bifI | intro _)
  all_goals first
    | (with_reducible trivial)
    | omega
    | (with_reducible infer_instance)
    | (simp only [drawFT, cond_true, cond_false, Int.toNat_natCast, *]; done)
    | (subst_vars; simp only [drawFT, cond_true, cond_false, Int.toNat_natCast, *]; done)
    | (simp only [drawFT, cond_true, cond_false, *]; exact leC_refl)
def e_s_DrawFilterTokens : Entry Try.prog := ⟨10, [.v (.list (.int .u8))], fun x => True, fun x => .ag [.bool (drawFT x.1).1, .row 0 0], fun x => [.row tyScope (drawFT x.1).2 0 0 none], fun x hx => b_s_DrawFilterTokens x.1, Try.call10⟩
def drawRF (code : List Int) : (List GToken) := (bif (eqI (below (below (right6 (newC code)).2 (IntKind.wrap .i64 (((List.length (filTok (right6 (newC code)).1) : Nat) : Int) + 1))).2 6).1 0) then (List.take (Int.toNat (below (right6 (newC code)).2 (IntKind.wrap .i64 (((List.length (filTok (right6 (newC code)).1) : Nat) : Int) + 1))).1) (filTok (right6 (newC code)).1)) else (bif (eqI (below (below (right6 (newC code)).2 (IntKind.wrap .i64 (((List.length (filTok (right6 (newC code)).1) : Nat) : Int) + 1))).2 6).1 1) then (((([] : List GToken) ++ (List.drop (Int.toNat 0) (List.take (Int.toNat (below (right6 (newC code)).2 (IntKind.wrap .i64 (((List.length (filTok (right6 (newC code)).1) : Nat) : Int) + 1))).1) (filTok (right6 (newC code)).1)))) ++ [(bent3 (below (below (right6 (newC code)).2 (IntKind.wrap .i64 (((List.length (filTok (right6 (newC code)).1) : Nat) : Int) + 1))).2 6).2).1]) ++ (List.drop (Int.toNat (below (right6 (newC code)).2 (IntKind.wrap .i64 (((List.length (filTok (right6 (newC code)).1) : Nat) : Int) + 1))).1) (List.take (Int.toNat ((List.length (filTok (right6 (newC code)).1) : Nat) : Int)) (filTok (right6 (newC code)).1)))) else (bif (eqI (below (below (right6 (newC code)).2 (IntKind.wrap .i64 (((List.length (filTok (right6 (newC code)).1) : Nat) : Int) + 1))).2 6).1 2) then (bif (ltI (below (right6 (newC code)).2 (IntKind.wrap .i64 (((List.length (filTok (right6 (newC code)).1) : Nat) : Int) + 1))).1 ((List.length (filTok (right6 (newC code)).1) : Nat) : Int)) then (List.set (filTok (right6 (newC code)).1) (Int.toNat (below (right6 (newC code)).2 (IntKind.wrap .i64 (((List.length (filTok (right6 (newC code)).1) : Nat) : Int) + 1))).1) ((nth_Token (filTok (right6 (newC code)).1) (Int.toNat (below (right6 (newC code)).2 (IntKind.wrap .i64 (((List.length (filTok (right6 (newC code)).1) : Nat) : Int) + 1))).1)).1, upT (nth_Token (filTok (right6 (newC code)).1) (Int.toNat (below (right6 (newC code)).2 (IntKind.wrap .i64 (((List.length (filTok (right6 (newC code)).1) : Nat) : Int) + 1))).1)).2)) else filTok (right6 (newC code)).1) else filTok (right6 (newC code)).1)))
def k2w5u26 (code : List Int) : Prop := ((True ∧ List.length ((([] : List GToken) ++ (List.drop (Int.toNat 0) (List.take (Int.toNat (below (right6 (newC code)).2 (IntKind.wrap .i64 (((List.length (filTok (right6 (newC code)).1) : Nat) : Int) + 1))).1) (filTok (right6 (newC code)).1)))) ++ [(bent3 (below (below (right6 (newC code)).2 (IntKind.wrap .i64 (((List.length (filTok (right6 (newC code)).1) : Nat) : Int) + 1))).2 6).2).1]) + List.length (List.drop (Int.toNat (below (right6 (newC code)).2 (IntKind.wrap .i64 (((List.length (filTok (right6 (newC code)).1) : Nat) : Int) + 1))).1) (List.take (Int.toNat ((List.length (filTok (right6 (newC code)).1) : Nat) : Int)) (filTok (right6 (newC code)).1))) ≤ rowMax) ∧ (True ∧ (((((([] : List GToken) ++ (List.drop (Int.toNat 0) (List.take (Int.toNat (below (right6 (newC code)).2 (IntKind.wrap .i64 (((List.length (filTok (right6 (newC code)).1) : Nat) : Int) + 1))).1) (filTok (right6 (newC code)).1)))) ++ [(bent3 (below (below (right6 (newC code)).2 (IntKind.wrap .i64 (((List.length (filTok (right6 (newC code)).1) : Nat) : Int) + 1))).2 6).2).1]) ++ (List.drop (Int.toNat (below (right6 (newC code)).2 (IntKind.wrap .i64 (((List.length (filTok (right6 (newC code)).1) : Nat) : Int) + 1))).1) (List.take (Int.toNat ((List.length (filTok (right6 (newC code)).1) : Nat) : Int)) (filTok (right6 (newC code)).1)))) = (drawRF code)) ∧ true = true)))
def k4w5u26 (code : List Int) : Prop := (True ∧ List.length (([] : List GToken) ++ (List.drop (Int.toNat 0) (List.take (Int.toNat (below (right6 (newC code)).2 (IntKind.wrap .i64 (((List.length (filTok (right6 (newC code)).1) : Nat) : Int) + 1))).1) (filTok (right6 (newC code)).1)))) + List.length ([(bent3 (below (below (right6 (newC code)).2 (IntKind.wrap .i64 (((List.length (filTok (right6 (newC code)).1) : Nat) : Int) + 1))).2 6).2).1]) ≤ rowMax)
def k0w5u26 (code : List Int) : Prop := ((k4w5u26 code) ∧ (k2w5u26 code))
def k1w5u26 (code : List Int) : Prop := ((2 : Nat) = 2 ∧ ((0 : Int) ≤ (below (right6 (newC code)).2 (IntKind.wrap .i64 (((List.length (filTok (right6 (newC code)).1) : Nat) : Int) + 1))).1 ∧ ((below (right6 (newC code)).2 (IntKind.wrap .i64 (((List.length (filTok (right6 (newC code)).1) : Nat) : Int) + 1))).1 : Int) ≤ ((List.length (filTok (right6 (newC code)).1) : Nat) : Int) ∧ (((List.length (filTok (right6 (newC code)).1) : Nat) : Int) : Int) ≤ ((List.length (filTok (right6 (newC code)).1) : Nat) : Int)))
def k3w5u26 (code : List Int) : Prop := (True ∧ List.length ([] : List GToken) + List.length (List.drop (Int.toNat 0) (List.take (Int.toNat (below (right6 (newC code)).2 (IntKind.wrap .i64 (((List.length (filTok (right6 (newC code)).1) : Nat) : Int) + 1))).1) (filTok (right6 (newC code)).1))) ≤ rowMax)
def k5w5u26 (code : List Int) : Prop := ((2 : Nat) = 2 ∧ (0 : Int) ≤ (below (right6 (newC code)).2 (IntKind.wrap .i64 (((List.length (filTok (right6 (newC code)).1) : Nat) : Int) + 1))).1 ∧ ((below (right6 (newC code)).2 (IntKind.wrap .i64 (((List.length (filTok (right6 (newC code)).1) : Nat) : Int) + 1))).1 : Int) < ((List.length (filTok (right6 (newC code)).1) : Nat) : Int))
def k6w5u26 (code : List Int) : Prop := ((cu (below (below (right6 (newC code)).2 (IntKind.wrap .i64 (((List.length (filTok (right6 (newC code)).1) : Nat) : Int) + 1))).2 6).2) ∧ (True ∧ (k0w5u26 code)))
theorem b_s_DrawReadFilter (code : List Int) : BCalls Try.prog 13 [.c (.hs .no (.int .u8) code)] (.c (.row 0 0)) [.row tyToken (drawRF code) 0 0 none] := by
  refine bcalls_of (T := ⟨[e_s_l1New, e_s_FilterTokens, e_s_Upper], [], [], [e_s_l6Right, e_s_l1Below, e_s_l3Bent], none, fun _ => [], 0, [], [22]⟩) (L := L0) Try.func13 ⟨⟨rfl, rfl⟩, rfl⟩ (fun hwf => ?_)
  refine Eq.mpr (β := (T2 ((True ∧ true = true) ∧ (T2 ((cu (newC code)) ∧ ((True ∧ true = true ∧ true = true) ∧ (T5 ((cu (right6 (newC code)).2) ∧ (T2 ((cu (below (right6 (newC code)).2 (IntKind.wrap .i64 (((List.length (filTok (right6 (newC code)).1) : Nat) : Int) + 1))).2) ∧ (T2 (bif (eqI (below (below (right6 (newC code)).2 (IntKind.wrap .i64 (((List.length (filTok (right6 (newC code)).1) : Nat) : Int) + 1))).2 6).1 0) then (T2 (((0 : Int) ≤ (below (right6 (newC code)).2 (IntKind.wrap .i64 (((List.length (filTok (right6 (newC code)).1) : Nat) : Int) + 1))).1 ∧ ((below (right6 (newC code)).2 (IntKind.wrap .i64 (((List.length (filTok (right6 (newC code)).1) : Nat) : Int) + 1))).1 : Int) ≤ ((List.length (filTok (right6 (newC code)).1) : Nat) : Int)) ∧ (True ∧ (((List.take (Int.toNat (below (right6 (newC code)).2 (IntKind.wrap .i64 (((List.length (filTok (right6 (newC code)).1) : Nat) : Int) + 1))).1) (filTok (right6 (newC code)).1)) = (drawRF code)) ∧ true = true)))) else (T2 (bif (eqI (below (below (right6 (newC code)).2 (IntKind.wrap .i64 (((List.length (filTok (right6 (newC code)).1) : Nat) : Int) + 1))).2 6).1 1) then ((true = true ∧ true = true) ∧ (T2 (((2 : Nat) = 2 ∧ ((0 : Int) ≤ 0 ∧ (0 : Int) ≤ (below (right6 (newC code)).2 (IntKind.wrap .i64 (((List.length (filTok (right6 (newC code)).1) : Nat) : Int) + 1))).1 ∧ ((below (right6 (newC code)).2 (IntKind.wrap .i64 (((List.length (filTok (right6 (newC code)).1) : Nat) : Int) + 1))).1 : Int) ≤ ((List.length (filTok (right6 (newC code)).1) : Nat) : Int))) ∧ (T3 ((True ∧ (((k3w5u26 code) ∧ (((cu (below (below (right6 (newC code)).2 (IntKind.wrap .i64 (((List.length (filTok (right6 (newC code)).1) : Nat) : Int) + 1))).2 6).2) ∧ ((True ∧ (((k4w5u26 code) ∧ ((k1w5u26 code) ∧ (k2w5u26 code))) ∧ (((k1w5u26 code) ∧ (k0w5u26 code))))) ∧ (((k1w5u26 code) ∧ (True ∧ (k0w5u26 code)))))) ∧ (((k1w5u26 code) ∧ (k6w5u26 code))))) ∧ (((k1w5u26 code) ∧ ((k3w5u26 code) ∧ (k6w5u26 code)))))) ∧ (((k1w5u26 code) ∧ (True ∧ ((k3w5u26 code) ∧ (k6w5u26 code)))))))))) else (T2 (bif (eqI (below (below (right6 (newC code)).2 (IntKind.wrap .i64 (((List.length (filTok (right6 (newC code)).1) : Nat) : Int) + 1))).2 6).1 2) then (T4 (bif (ltI (below (right6 (newC code)).2 (IntKind.wrap .i64 (((List.length (filTok (right6 (newC code)).1) : Nat) : Int) + 1))).1 ((List.length (filTok (right6 (newC code)).1) : Nat) : Int)) then (T4 ((k5w5u26 code) ∧ (T2 ((True ∧ true = true) ∧ ((k5w5u26 code) ∧ (T2 (∀ r0 : List GToken, r0 = (List.set (filTok (right6 (newC code)).1) (Int.toNat (below (right6 (newC code)).2 (IntKind.wrap .i64 (((List.length (filTok (right6 (newC code)).1) : Nat) : Int) + 1))).1) ((nth_Token (filTok (right6 (newC code)).1) (Int.toNat (below (right6 (newC code)).2 (IntKind.wrap .i64 (((List.length (filTok (right6 (newC code)).1) : Nat) : Int) + 1))).1)).1, upT (nth_Token (filTok (right6 (newC code)).1) (Int.toNat (below (right6 (newC code)).2 (IntKind.wrap .i64 (((List.length (filTok (right6 (newC code)).1) : Nat) : Int) + 1))).1)).2)) → (T2 ((r0 = (drawRF code)) ∧ true = true))))))))) else (T2 (((filTok (right6 (newC code)).1) = (drawRF code)) ∧ true = true)))) else (T2 (((filTok (right6 (newC code)).1) = (drawRF code)) ∧ true = true)))))))))))))))))) (by kernel_rfl) ?_
  unfold k6w5u26 k5w5u26 k3w5u26 k1w5u26 k0w5u26 k4w5u26 k2w5u26 T2 T3 T4 T5
  haveI := newC_ok (code := code) hwf.1.1
  have hL := filTok_len (right6 (newC code)).1
  have w := w64i (x := ((List.length (filTok (right6 (newC code)).1) : Nat) : Int) + 1) (by omega) (by omega)
  have hb := below_b (c := (right6 (newC code)).2) (n := IntKind.wrap .i64 (((List.length (filTok (right6 (newC code)).1) : Nat) : Int) + 1)) (by omega)
  simp only [SIU, cuE_eq, cu_eq, eq_self]
  repeat' (with_reducible first | exact trivial | apply And.intro | apply bifI | intro _)
  all_goals first
    | (with_reducible trivial)
    | omega
    | (with_reducible infer_instance)
    | (simp only [drawRF, cond_true, cond_false, Int.toNat_natCast, *]; done)
    | (subst_vars; simp only [drawRF, cond_true, cond_false, Int.toNat_natCast, *]; done)
    | (simp only [drawRF, cond_true, cond_false, *]; exact leC_refl)
    | (clear hb w hL; simp only [drawRF, cond_true, cond_false, Int.toNat_natCast, *]; done)
    | (clear hb w hL; subst_vars; simp only [drawRF, cond_true, cond_false, Int.toNat_natCast, *]; done)
    | (have hg := ltI_true.1 (by assumption : ltI _ _ = true); omega)
    | (simp only [List.length_append, List.length_drop, List.length_take, List.length_cons, List.length_nil]; unfold rowMax; omega)
def e_s_DrawReadFilter : Entry Try.prog := ⟨13, [.v (.list (.int .u8))], fun x => True, fun x => .c (.row 0 0), fun x => [.row tyToken (drawRF x.1) 0 0 none], fun x hx => b_s_DrawReadFilter x.1, Try.call13⟩
theorem drawRF_len (code : List Int) : (drawRF code).length ≤ 1000 := by
  have hL := filTok_len (right6 (newC code)).1
  unfold drawRF
  simp only [bif_if]
  repeat' split
  all_goals ((try simp only [List.length_append, List.length_drop, List.length_take, List.length_cons, List.length_nil, List.length_set]); omega)
end Go.Proofs.Ytoigkpkafgjeaaa
