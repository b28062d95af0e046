/-
  Draws of input.
  No condition but what the arguments' cells hold. Printed by vcgen.py.
-/
import Derived.Test.YtbpapaponnfagaaGreatDoorLBlDraw4
set_option linter.unusedSimpArgs false
set_option linter.unusedVariables false
set_option maxRecDepth 100000
set_option maxHeartbeats 4000000
namespace Go.Proofs.YtbpapaponnfagaaGreatDoor
open Go.ChangeShapes Go.WideShapes Go.ChangeAt Go.RowKit Go.Joins Go.Deep
open GoRep (rep bulk)

theorem lit_sz (l : List UInt8) : ByteArray.size (ByteArray.mk l.toArray) = l.length := by
  show l.toArray.size = _
  exact List.size_toArray
def longB (n k : Nat) : List Int := List.replicate k 120 ++ List.replicate (n - k) 0
theorem longB_len {n k : Nat} (h : k ≤ n) : (longB n k).length = n := by unfold longB; rw [List.length_append, List.length_replicate, List.length_replicate]; omega
theorem longB_set {n k : Nat} (h : k < n) : List.set (longB n k) k 120 = longB n (k + 1) := by
  obtain ⟨m, hm⟩ : ∃ m, n - k = m + 1 := ⟨n - k - 1, by omega⟩
  unfold longB
  rw [hm, show n - (k + 1) = m by omega, List.replicate_succ, List.set_append_right _ _ (by simp)]
  simp [List.replicate_succ']
theorem longB_zero (n : Nat) : longB n 0 = List.replicate n 0 := by unfold longB; simp
def longS (n : Nat) : ByteArray := bytesOf (longB n n)
theorem longS_size (n : Nat) : (longS n).size = n := by unfold longS; rw [bytesOf_size, longB_len (Nat.le_refl _)]
def mid (n : Int) : Prop := 0 ≤ n ∧ n ≤ 1048576
def L_s_l17Long (n : Int) : Nat → List AV → Mem → LoopA
  | 3, tm, M => ⟨Nat, fun y => (anyR (setA tm [(4, .c (.int .i64 ((y : Nat) : Int)))]) 7 8, setM M [(0, .row (.int .u8) (longB (Int.toNat n) y) 0 0 none)]), fun y => (y ≤ Int.toNat n), fun y => (Int.toNat n - y)⟩
  | _, _, _ => ⟨Unit, fun _ => ([], []), fun _ => False, fun _ => 0⟩
theorem b_s_l17Long (n : Int) (hpre : mid n) : BCalls Tryz.prog 119 [.c (.int .i64 n)] (.c (.str (longS (Int.toNat n)))) [] := by
  refine bc0 [] [] [] [] (L_s_l17Long n) Tryz.func119 (fun hwf => ?_)
  refine Eq.mpr (β := (T2 (((n : Int) = n ∧ (0 : Int) ≤ n ∧ (n : Int) ≤ ((rowMax : Nat) : Int)) ∧ (T2 ((∃ q : Nat, (q ≤ Int.toNat n) ∧ ((lxs [.c (.int .i64 n), .tp [], .c (.str (⟨#[]⟩ : ByteArray)), .c (.row 0 0)] (leV (.c (.int .i64 0)) (.c (.int .i64 ((q : Nat) : Int))) ∧ lxs [.c (.int .i64 n), .c (.row 0 0)] (TN 8 (lxs [.tp [], .tp []] True)))) ∧ (leB (.row (.int .u8) (List.replicate (Int.toNat n) (0 : Int)) 0 0 none) (.row (.int .u8) (longB (Int.toNat n) q) 0 0 none) ∧ True) ∧ true = true)) ∧ ∀ y0 : Nat, (y0 ≤ Int.toNat n) → (T3 (bif (ltI ((y0 : Nat) : Int) n) then (T2 (((1 : Nat) = 1 ∧ (0 : Int) ≤ ((y0 : Nat) : Int) ∧ (((y0 : Nat) : Int) : Int) < ((List.length (longB (Int.toNat n) y0) : Nat) : Int)) ∧ (True ∧ ∀ r1 : List Int, r1 = (List.set (longB (Int.toNat n) y0) (Int.toNat ((y0 : Nat) : Int)) 120) → (T3 (∃ y0' : Nat, (y0' ≤ Int.toNat n) ∧ (Int.toNat n - y0') < (Int.toNat n - y0) ∧ ((lxs [.c (.int .i64 n), .tp [], .c (.str (⟨#[]⟩ : ByteArray)), .c (.row 0 0)] (leV (.c (.int .i64 (IntKind.wrap .i64 (((y0 : Nat) : Int) + 1)))) (.c (.int .i64 ((y0' : Nat) : Int))) ∧ lxs [.c (.int .i64 n), .c (.row 0 0)] (TN 8 (lxs [.tp [], .tp []] True)))) ∧ (leB (.row (.int .u8) r1 0 0 none) (.row (.int .u8) (longB (Int.toNat n) y0') 0 0 none) ∧ True) ∧ true = true)))))) else (True ∧ (List.length (longB (Int.toNat n) y0) ≤ maxLen ∧ (True ∧ (rS (bytesOf (longB (Int.toNat n) y0)) (longS (Int.toNat n))))))))))))) (by kernel_rfl) ?_
  unfold T2 T3
  obtain ⟨p1, p2⟩ := hpre
  simp only [leB_rowU8, SI2A, eq_self]
  repeat' (with_reducible first | exact trivial | apply And.intro | intro _)
  all_goals first
    | (with_reducible trivial)
    | omega
    | (with_reducible assumption)
    | (unfold rowMax; omega)
    | (refine ⟨0, Nat.zero_le _, rfl, ?_⟩; rw [longB_zero]; exact Eq.mpr leB_refl trivial)
    | (rw [longB_len (by assumption)]; omega)
    | (rw [longB_len (by assumption)]; unfold maxLen; omega)
    | (rename_i y hy hlt; refine ⟨y + 1, by omega, by omega, wrapN (by unfold maxLen; omega), ?_⟩; subst_vars; exact longB_set (by omega))
    | (rename_i y hy hlt r hr; refine ⟨y + 1, by omega, by omega, wrapN (by unfold maxLen; omega), ?_⟩; rw [hr]; exact longB_set (by omega))
    | (rename_i y hy hge; obtain rfl : y = Int.toNat n := by omega
       rfl)
def e_s_l17Long : Entry Tryz.prog := ⟨119, [.v tyInt], fun x => mid x.1, fun x => .c (.str (longS (Int.toNat x.1))), fun _ => [], fun x hx => b_s_l17Long x.1 hx, Tryz.call119⟩
def txt18 (c : GCur) : Nat → ByteArray × GCur
  | 0 => (⟨#[]⟩, c)
  | k + 1 => ((txt18 c k).1 ++ (line8 (txt18 c k).2).1 ++ (⟨#[13, 10]⟩ : ByteArray), (line8 (txt18 c k).2).2)
instance txt18_ok (c : GCur) [CurOk c] : ∀ k, CurOk (txt18 c k).2
  | 0 => by unfold txt18; infer_instance
  | k + 1 => by have := txt18_ok c k; unfold txt18; infer_instance
theorem txt18_size (c : GCur) : ∀ k, (txt18 c k).1.size ≤ 222302 * k
  | 0 => Nat.zero_le _
  | k + 1 => by
    have h1 := txt18_size c k
    have h2 := line8_size (txt18 c k).2
    unfold txt18
    simp only [ByteArray.size_append]
    show _ + _ + 2 ≤ _
    omega
def text18 (c : GCur) : ByteArray × GCur := (bif (eqI (below (txt18 (below c 4).2 (Int.toNat (below c 4).1)).2 10).1 0) then ((((((txt18 (below c 4).2 (Int.toNat (below c 4).1)).1 ++ (⟨#[97, 32, 97, 112, 112, 101, 110, 100, 32, 105, 110, 98, 111, 120, 32, 40, 41, 32, 123]⟩ : ByteArray)) ++ (⟨(Lib.itoa (below (below (txt18 (below c 4).2 (Int.toNat (below c 4).1)).2 10).2 60).1).toArray⟩ : ByteArray)) ++ (⟨#[125, 13, 10]⟩ : ByteArray)) ++ (pick (below (below (txt18 (below c 4).2 (Int.toNat (below c 4).1)).2 10).2 60).2 ([(⟨#[]⟩ : ByteArray), (⟨#[120]⟩ : ByteArray), (⟨#[120, 121, 122, 13, 10]⟩ : ByteArray)])).1), (pick (below (below (txt18 (below c 4).2 (Int.toNat (below c 4).1)).2 10).2 60).2 ([(⟨#[]⟩ : ByteArray), (⟨#[120]⟩ : ByteArray), (⟨#[120, 121, 122, 13, 10]⟩ : ByteArray)])).2) else (bif (eqI (below (txt18 (below c 4).2 (Int.toNat (below c 4).1)).2 10).1 1) then ((((txt18 (below c 4).2 (Int.toNat (below c 4).1)).1 ++ (longS (Int.toNat (IntKind.wrap .i64 (195 + (below (below (txt18 (below c 4).2 (Int.toNat (below c 4).1)).2 10).2 12).1))))) ++ (pick (below (below (txt18 (below c 4).2 (Int.toNat (below c 4).1)).2 10).2 12).2 ([(⟨#[]⟩ : ByteArray), (⟨#[13]⟩ : ByteArray), (⟨#[13, 10]⟩ : ByteArray), (⟨#[13, 10, 98, 32, 110, 111, 111, 112, 13, 10]⟩ : ByteArray)])).1), (pick (below (below (txt18 (below c 4).2 (Int.toNat (below c 4).1)).2 10).2 12).2 ([(⟨#[]⟩ : ByteArray), (⟨#[13]⟩ : ByteArray), (⟨#[13, 10]⟩ : ByteArray), (⟨#[13, 10, 98, 32, 110, 111, 111, 112, 13, 10]⟩ : ByteArray)])).2) else (bif (eqI (below (txt18 (below c 4).2 (Int.toNat (below c 4).1)).2 10).1 2) then (((txt18 (below c 4).2 (Int.toNat (below c 4).1)).1 ++ (pick (below (txt18 (below c 4).2 (Int.toNat (below c 4).1)).2 10).2 ([(⟨#[13]⟩ : ByteArray), (⟨#[10]⟩ : ByteArray), (⟨#[13, 13, 10]⟩ : ByteArray), (⟨#[123, 57, 57, 57, 57, 57, 57, 57, 57, 57, 125, 13, 10]⟩ : ByteArray)])).1), (pick (below (txt18 (below c 4).2 (Int.toNat (below c 4).1)).2 10).2 ([(⟨#[13]⟩ : ByteArray), (⟨#[10]⟩ : ByteArray), (⟨#[13, 13, 10]⟩ : ByteArray), (⟨#[123, 57, 57, 57, 57, 57, 57, 57, 57, 57, 125, 13, 10]⟩ : ByteArray)])).2) else ((txt18 (below c 4).2 (Int.toNat (below c 4).1)).1, (below (txt18 (below c 4).2 (Int.toNat (below c 4).1)).2 10).2))))
instance text18_ok (c : GCur) [CurOk c] : CurOk (text18 c).2 := by
  unfold text18
  simp only [bif_if]
  repeat' split
  all_goals infer_instance
def L_s_l18Text (c : GCur) : Nat → List AV → Mem → LoopA
  | 4, tm, M => ⟨Nat, fun y => (anyR (setA tm [(3, .c (.str (txt18 (below c 4).2 y).1)), (5, .c (.int .i64 ((y : Nat) : Int)))]) 8 10, setM M [(0, .box [.hs .no (.int .u8) (txt18 (below c 4).2 y).2.1, .int .i64 (txt18 (below c 4).2 y).2.2.1, .int .i64 (txt18 (below c 4).2 y).2.2.2])]), fun y => (y ≤ Int.toNat (below c 4).1), fun y => (Int.toNat (below c 4).1 - y)⟩
  | _, _, _ => ⟨Unit, fun _ => ([], []), fun _ => False, fun _ => 0⟩
theorem m_s_l18Text (c : GCur) (hpre : CurOk c) : MCalls Tryz.prog 117 (argsM 0 [(.b tyCur)] (c, ())) (preM 0 [(.b tyCur)] (c, ())) (postM 0 [(.b tyCur)] ((text18 c).2, ()) ++ []) (inpM 0 [(.b tyCur)]) (.c (.str (text18 c).1)) := by
  refine mcalls_of (T := ⟨[e_s_Digits, e_s_l17Long], [], [], [e_s_l1Below, e_s_l8Line, e_s_l1Pick], none, fun _ => [], 1, [], []⟩) (L := (L_s_l18Text c)) Tryz.func117 rfl rfl rfl (by kernel_rfl) (fun hwf hwm => ?_)
  refine Eq.mpr (β := (T3 ((cu c) ∧ (T2 ((∃ q : Nat, (q ≤ Int.toNat (below c 4).1) ∧ ((lxs [.c (.bp 0 0), .tp [], .c (.str (⟨#[]⟩ : ByteArray))] (leV (.c (.str (⟨#[]⟩ : ByteArray))) (.c (.str (txt18 (below c 4).2 q).1)) ∧ lxs [.c (.int .i64 (below c 4).1)] (leV (.c (.int .i64 0)) (.c (.int .i64 ((q : Nat) : Int))) ∧ lxs [.c (.bp 0 0), .c (.int .i64 (below c 4).1)] (TN 10 (lxs [.tp [], .tp [], .tp [], .tp [], .tp [], .tp [], .tp [], .tp [], .tp [], .tp [], .tp [], .tp [], .tp [], .tp [], .tp [], .tp [], .tp [], .tp [], .tp [], .tp [], .tp [], .tp [], .tp [], .tp [], .tp [], .tp [], .tp [], .tp [], .tp [], .tp [], .tp [], .tp [], .tp [], .tp [], .tp []] True))))) ∧ (leB (.box [.hs .no (.int .u8) (below c 4).2.1, .int .i64 (below c 4).2.2.1, .int .i64 (below c 4).2.2.2]) (.box [.hs .no (.int .u8) (txt18 (below c 4).2 q).2.1, .int .i64 (txt18 (below c 4).2 q).2.2.1, .int .i64 (txt18 (below c 4).2 q).2.2.2]) ∧ True) ∧ true = true)) ∧ ∀ y0 : Nat, (y0 ≤ Int.toNat (below c 4).1) → (T3 (bif (ltI ((y0 : Nat) : Int) (below c 4).1) then (T2 ((cu (txt18 (below c 4).2 y0).2) ∧ (ByteArray.size (txt18 (below c 4).2 y0).1 + ByteArray.size (line8 (txt18 (below c 4).2 y0).2).1 ≤ maxLen ∧ (ByteArray.size ((txt18 (below c 4).2 y0).1 ++ (line8 (txt18 (below c 4).2 y0).2).1) + ByteArray.size (⟨#[13, 10]⟩ : ByteArray) ≤ maxLen ∧ (T4 (∃ y0' : Nat, (y0' ≤ Int.toNat (below c 4).1) ∧ (Int.toNat (below c 4).1 - y0') < (Int.toNat (below c 4).1 - y0) ∧ ((lxs [.c (.bp 0 0), .tp [], .c (.str (⟨#[]⟩ : ByteArray))] (leV (.c (.str (((txt18 (below c 4).2 y0).1 ++ (line8 (txt18 (below c 4).2 y0).2).1) ++ (⟨#[13, 10]⟩ : ByteArray)))) (.c (.str (txt18 (below c 4).2 y0').1)) ∧ lxs [.c (.int .i64 (below c 4).1)] (leV (.c (.int .i64 (IntKind.wrap .i64 (((y0 : Nat) : Int) + 1)))) (.c (.int .i64 ((y0' : Nat) : Int))) ∧ lxs [.c (.bp 0 0), .c (.int .i64 (below c 4).1)] (TN 10 (lxs [.tp [], .tp [], .tp [], .tp [], .tp [], .tp [], .tp [], .tp [], .tp [], .tp [], .tp [], .tp [], .tp [], .tp [], .tp [], .tp [], .tp [], .tp [], .tp [], .tp [], .tp [], .tp [], .tp [], .tp [], .tp [], .tp [], .tp [], .tp [], .tp [], .tp [], .tp [], .tp [], .tp [], .tp [], .tp []] True))))) ∧ (leB (.box [.hs .no (.int .u8) (line8 (txt18 (below c 4).2 y0).2).2.1, .int .i64 (line8 (txt18 (below c 4).2 y0).2).2.2.1, .int .i64 (line8 (txt18 (below c 4).2 y0).2).2.2.2]) (.box [.hs .no (.int .u8) (txt18 (below c 4).2 y0').2.1, .int .i64 (txt18 (below c 4).2 y0').2.2.1, .int .i64 (txt18 (below c 4).2 y0').2.2.2]) ∧ True) ∧ true = true))))))) else (True ∧ ((cu (txt18 (below c 4).2 y0).2) ∧ (T2 (bif (eqI (below (txt18 (below c 4).2 y0).2 10).1 0) then (True ∧ (ByteArray.size (txt18 (below c 4).2 y0).1 + ByteArray.size (⟨#[97, 32, 97, 112, 112, 101, 110, 100, 32, 105, 110, 98, 111, 120, 32, 40, 41, 32, 123]⟩ : ByteArray) ≤ maxLen ∧ (True ∧ ((cu (below (txt18 (below c 4).2 y0).2 10).2) ∧ ((nonneg (below (below (txt18 (below c 4).2 y0).2 10).2 60).1 ∧ true = true) ∧ (ByteArray.size ((txt18 (below c 4).2 y0).1 ++ (⟨#[97, 32, 97, 112, 112, 101, 110, 100, 32, 105, 110, 98, 111, 120, 32, 40, 41, 32, 123]⟩ : ByteArray)) + ByteArray.size (⟨(Lib.itoa (below (below (txt18 (below c 4).2 y0).2 10).2 60).1).toArray⟩ : ByteArray) ≤ maxLen ∧ (ByteArray.size (((txt18 (below c 4).2 y0).1 ++ (⟨#[97, 32, 97, 112, 112, 101, 110, 100, 32, 105, 110, 98, 111, 120, 32, 40, 41, 32, 123]⟩ : ByteArray)) ++ (⟨(Lib.itoa (below (below (txt18 (below c 4).2 y0).2 10).2 60).1).toArray⟩ : ByteArray)) + ByteArray.size (⟨#[125, 13, 10]⟩ : ByteArray) ≤ maxLen ∧ (T2 ((((CurOk (below (below (txt18 (below c 4).2 y0).2 10).2 60).2 ∧ 0 < List.length ([(⟨#[]⟩ : ByteArray), (⟨#[120]⟩ : ByteArray), (⟨#[120, 121, 122, 13, 10]⟩ : ByteArray)])) ∧ (((cuE (below (below (txt18 (below c 4).2 y0).2 10).2 60).2 (below (below (txt18 (below c 4).2 y0).2 10).2 60).2)) ∧ (([(⟨#[]⟩ : ByteArray), (⟨#[120]⟩ : ByteArray), (⟨#[120, 121, 122, 13, 10]⟩ : ByteArray)]) = ([(⟨#[]⟩ : ByteArray), (⟨#[120]⟩ : ByteArray), (⟨#[120, 121, 122, 13, 10]⟩ : ByteArray)])) ∧ True)) ∧ true = true) ∧ ∀ r1 : List ByteArray, r1 = [(⟨#[]⟩ : ByteArray), (⟨#[120]⟩ : ByteArray), (⟨#[120, 121, 122, 13, 10]⟩ : ByteArray)] → (ByteArray.size ((((txt18 (below c 4).2 y0).1 ++ (⟨#[97, 32, 97, 112, 112, 101, 110, 100, 32, 105, 110, 98, 111, 120, 32, 40, 41, 32, 123]⟩ : ByteArray)) ++ (⟨(Lib.itoa (below (below (txt18 (below c 4).2 y0).2 10).2 60).1).toArray⟩ : ByteArray)) ++ (⟨#[125, 13, 10]⟩ : ByteArray)) + ByteArray.size (pick (below (below (txt18 (below c 4).2 y0).2 10).2 60).2 ([(⟨#[]⟩ : ByteArray), (⟨#[120]⟩ : ByteArray), (⟨#[120, 121, 122, 13, 10]⟩ : ByteArray)])).1 ≤ maxLen ∧ (T3 (((((cuE (pick (below (below (txt18 (below c 4).2 y0).2 10).2 60).2 ([(⟨#[]⟩ : ByteArray), (⟨#[120]⟩ : ByteArray), (⟨#[120, 121, 122, 13, 10]⟩ : ByteArray)])).2 (text18 c).2)) ∧ True) ∧ (true = true ∧ leC (.str (((((txt18 (below c 4).2 y0).1 ++ (⟨#[97, 32, 97, 112, 112, 101, 110, 100, 32, 105, 110, 98, 111, 120, 32, 40, 41, 32, 123]⟩ : ByteArray)) ++ (⟨(Lib.itoa (below (below (txt18 (below c 4).2 y0).2 10).2 60).1).toArray⟩ : ByteArray)) ++ (⟨#[125, 13, 10]⟩ : ByteArray)) ++ (pick (below (below (txt18 (below c 4).2 y0).2 10).2 60).2 ([(⟨#[]⟩ : ByteArray), (⟨#[120]⟩ : ByteArray), (⟨#[120, 121, 122, 13, 10]⟩ : ByteArray)])).1)) (.str (text18 c).1))) ∧ true = true)))))))))))) else (T2 (bif (eqI (below (txt18 (below c 4).2 y0).2 10).1 1) then (T2 ((cu (below (txt18 (below c 4).2 y0).2 10).2) ∧ (True ∧ ((mid (IntKind.wrap .i64 (195 + (below (below (txt18 (below c 4).2 y0).2 10).2 12).1)) ∧ true = true) ∧ (ByteArray.size (txt18 (below c 4).2 y0).1 + ByteArray.size (longS (Int.toNat (IntKind.wrap .i64 (195 + (below (below (txt18 (below c 4).2 y0).2 10).2 12).1)))) ≤ maxLen ∧ (T2 ((((CurOk (below (below (txt18 (below c 4).2 y0).2 10).2 12).2 ∧ 0 < List.length ([(⟨#[]⟩ : ByteArray), (⟨#[13]⟩ : ByteArray), (⟨#[13, 10]⟩ : ByteArray), (⟨#[13, 10, 98, 32, 110, 111, 111, 112, 13, 10]⟩ : ByteArray)])) ∧ (((cuE (below (below (txt18 (below c 4).2 y0).2 10).2 12).2 (below (below (txt18 (below c 4).2 y0).2 10).2 12).2)) ∧ (([(⟨#[]⟩ : ByteArray), (⟨#[13]⟩ : ByteArray), (⟨#[13, 10]⟩ : ByteArray), (⟨#[13, 10, 98, 32, 110, 111, 111, 112, 13, 10]⟩ : ByteArray)]) = ([(⟨#[]⟩ : ByteArray), (⟨#[13]⟩ : ByteArray), (⟨#[13, 10]⟩ : ByteArray), (⟨#[13, 10, 98, 32, 110, 111, 111, 112, 13, 10]⟩ : ByteArray)])) ∧ True)) ∧ true = true) ∧ ∀ r1 : List ByteArray, r1 = [(⟨#[]⟩ : ByteArray), (⟨#[13]⟩ : ByteArray), (⟨#[13, 10]⟩ : ByteArray), (⟨#[13, 10, 98, 32, 110, 111, 111, 112, 13, 10]⟩ : ByteArray)] → (ByteArray.size ((txt18 (below c 4).2 y0).1 ++ (longS (Int.toNat (IntKind.wrap .i64 (195 + (below (below (txt18 (below c 4).2 y0).2 10).2 12).1))))) + ByteArray.size (pick (below (below (txt18 (below c 4).2 y0).2 10).2 12).2 ([(⟨#[]⟩ : ByteArray), (⟨#[13]⟩ : ByteArray), (⟨#[13, 10]⟩ : ByteArray), (⟨#[13, 10, 98, 32, 110, 111, 111, 112, 13, 10]⟩ : ByteArray)])).1 ≤ maxLen ∧ (T3 (((((cuE (pick (below (below (txt18 (below c 4).2 y0).2 10).2 12).2 ([(⟨#[]⟩ : ByteArray), (⟨#[13]⟩ : ByteArray), (⟨#[13, 10]⟩ : ByteArray), (⟨#[13, 10, 98, 32, 110, 111, 111, 112, 13, 10]⟩ : ByteArray)])).2 (text18 c).2)) ∧ True) ∧ (true = true ∧ leC (.str (((txt18 (below c 4).2 y0).1 ++ (longS (Int.toNat (IntKind.wrap .i64 (195 + (below (below (txt18 (below c 4).2 y0).2 10).2 12).1))))) ++ (pick (below (below (txt18 (below c 4).2 y0).2 10).2 12).2 ([(⟨#[]⟩ : ByteArray), (⟨#[13]⟩ : ByteArray), (⟨#[13, 10]⟩ : ByteArray), (⟨#[13, 10, 98, 32, 110, 111, 111, 112, 13, 10]⟩ : ByteArray)])).1)) (.str (text18 c).1))) ∧ true = true)))))))))) else (T2 (bif (eqI (below (txt18 (below c 4).2 y0).2 10).1 2) then (T3 ((((CurOk (below (txt18 (below c 4).2 y0).2 10).2 ∧ 0 < List.length ([(⟨#[13]⟩ : ByteArray), (⟨#[10]⟩ : ByteArray), (⟨#[13, 13, 10]⟩ : ByteArray), (⟨#[123, 57, 57, 57, 57, 57, 57, 57, 57, 57, 125, 13, 10]⟩ : ByteArray)])) ∧ (((cuE (below (txt18 (below c 4).2 y0).2 10).2 (below (txt18 (below c 4).2 y0).2 10).2)) ∧ (([(⟨#[13]⟩ : ByteArray), (⟨#[10]⟩ : ByteArray), (⟨#[13, 13, 10]⟩ : ByteArray), (⟨#[123, 57, 57, 57, 57, 57, 57, 57, 57, 57, 125, 13, 10]⟩ : ByteArray)]) = ([(⟨#[13]⟩ : ByteArray), (⟨#[10]⟩ : ByteArray), (⟨#[13, 13, 10]⟩ : ByteArray), (⟨#[123, 57, 57, 57, 57, 57, 57, 57, 57, 57, 125, 13, 10]⟩ : ByteArray)])) ∧ True)) ∧ true = true) ∧ ∀ r1 : List ByteArray, r1 = [(⟨#[13]⟩ : ByteArray), (⟨#[10]⟩ : ByteArray), (⟨#[13, 13, 10]⟩ : ByteArray), (⟨#[123, 57, 57, 57, 57, 57, 57, 57, 57, 57, 125, 13, 10]⟩ : ByteArray)] → (ByteArray.size (txt18 (below c 4).2 y0).1 + ByteArray.size (pick (below (txt18 (below c 4).2 y0).2 10).2 ([(⟨#[13]⟩ : ByteArray), (⟨#[10]⟩ : ByteArray), (⟨#[13, 13, 10]⟩ : ByteArray), (⟨#[123, 57, 57, 57, 57, 57, 57, 57, 57, 57, 125, 13, 10]⟩ : ByteArray)])).1 ≤ maxLen ∧ (T3 (((((cuE (pick (below (txt18 (below c 4).2 y0).2 10).2 ([(⟨#[13]⟩ : ByteArray), (⟨#[10]⟩ : ByteArray), (⟨#[13, 13, 10]⟩ : ByteArray), (⟨#[123, 57, 57, 57, 57, 57, 57, 57, 57, 57, 125, 13, 10]⟩ : ByteArray)])).2 (text18 c).2)) ∧ True) ∧ (true = true ∧ leC (.str ((txt18 (below c 4).2 y0).1 ++ (pick (below (txt18 (below c 4).2 y0).2 10).2 ([(⟨#[13]⟩ : ByteArray), (⟨#[10]⟩ : ByteArray), (⟨#[13, 13, 10]⟩ : ByteArray), (⟨#[123, 57, 57, 57, 57, 57, 57, 57, 57, 57, 125, 13, 10]⟩ : ByteArray)])).1)) (.str (text18 c).1))) ∧ true = true))))) else (T2 (((((cuE (below (txt18 (below c 4).2 y0).2 10).2 (text18 c).2)) ∧ True) ∧ (true = true ∧ leC (.str (txt18 (below c 4).2 y0).1) (.str (text18 c).1))) ∧ true = true))))))))))))))))) (by kernel_rfl) ?_
  unfold T2 T3 T4
  have hb := below_b (c := c) (n := 4) (by decide)
  simp only [SIU, cuE_eq, cu_eq, leB_cur, eq_self]
  refine ⟨by infer_instance, ⟨0, Nat.zero_le _, ⟨rfl, rfl⟩, rfl⟩, fun y hy => bifI (fun hlt => ?_) (fun hge => ?_)⟩
  · have hlt := ltI_true.1 hlt
    have h8 := line8_size (txt18 (below c 4).2 y).2
    have hs := txt18_size (below c 4).2 y
    repeat' (with_reducible first | exact trivial | apply And.intro | intro _)
    all_goals first
      | (with_reducible trivial)
      | omega
      | (with_reducible assumption)
      | infer_instance
      | ((try simp only [ByteArray.size_append, lit_sz, List.length_cons, List.length_nil]); unfold maxLen; omega)
      | exact ⟨y + 1, by omega, by omega, ⟨rfl, wrapN (by unfold maxLen; omega)⟩, rfl⟩
  · have hge := ltI_false.1 hge
    obtain rfl : y = Int.toNat (below c 4).1 := by omega
    have hs := txt18_size (below c 4).2 (Int.toNat (below c 4).1)
    have hB := below_b (c := (txt18 (below c 4).2 (Int.toNat (below c 4).1)).2) (n := 10) (by decide)
    generalize hd : (below (txt18 (below c 4).2 (Int.toNat (below c 4).1)).2 10).2 = d
    have h60 := below_b (c := d) (n := 60) (by decide)
    have hit := itoa_sz (n := (below d 60).1) (by omega)
    rw [lit_sz] at hit
    have h12 := below_b (c := d) (n := 12) (by decide)
    have w := w64i (x := 195 + (below d 12).1) (by omega) (by omega)
    haveI hok : CurOk d := by rw [← hd]; infer_instance
    repeat' (with_reducible first | exact trivial | apply And.intro | apply bifI | intro _)
    all_goals first
      | (with_reducible trivial)
      | omega
      | (with_reducible assumption)
      | infer_instance
      | exact h60.1
      | exact (by decide)
      | ((try simp only [ByteArray.size_append, lit_sz, longS_size, w, List.length_cons, List.length_nil]); unfold maxLen; omega)
      | (refine Nat.le_trans (Nat.add_le_add_left (pick_size (n := 100) (by decide) (by decide)) _) ?_; ((try simp only [ByteArray.size_append, lit_sz, longS_size, w, List.length_cons, List.length_nil]); unfold maxLen; omega))
      | (rw [w]; exact ⟨by omega, by omega⟩)
      | (subst_vars; simp only [text18, cond_true, cond_false, Int.toNat_natCast, *]; done)
def e_s_l18Text : MEntry Tryz.prog := ⟨117, [(.b tyCur)], fun x => CurOk x.1, fun x => ((text18 x.1).2, ()), fun x => .c (.str (text18 x.1).1), fun _ => [], fun x hx => m_s_l18Text x.1 hx, Tryz.call117⟩
end Go.Proofs.YtbpapaponnfagaaGreatDoor
