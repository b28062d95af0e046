/-
  Draws of input.
  No condition but what the arguments' cells hold. Printed by vcgen.py.
-/
import Derived.Test.YtbpapaponnfagaaGreatDoorLBlDraw5
set_option linter.unusedSimpArgs false
set_option linter.unusedVariables false
set_option maxRecDepth 100000
set_option maxHeartbeats 4000000
namespace Go.Proofs.YtbpapaponnfagaaGreatDoor
open Go.ChangeShapes Go.WideShapes Go.ChangeAt Go.RowKit Go.Joins Go.Deep
open GoRep (rep bulk)

theorem text18_size (c : GCur) : (text18 c).1.size ≤ 1000000 := by
  have hb := below_b (c := c) (n := 4) (by decide)
  have hs := txt18_size (below c 4).2 (Int.toNat (below c 4).1)
  unfold text18
  generalize (below (txt18 (below c 4).2 (Int.toNat (below c 4).1)).2 10).2 = d
  have h60 := below_b (c := d) (n := 60) (by decide)
  have hit := itoa_sz (n := (below d 60).1) (by omega)
  rw [lit_sz] at hit
  have h12 := below_b (c := d) (n := 12) (by decide)
  have w := w64i (x := 195 + (below d 12).1) (by omega) (by omega)
  simp only [bif_if]
  repeat' split
  all_goals first
    | (simp only [ByteArray.size_append]; refine Nat.le_trans (Nat.add_le_add_left (pick_size (n := 100) (by decide) (by decide)) _) ?_; (try simp only [lit_sz, longS_size, w, List.length_cons, List.length_nil]); omega)
    | (show ByteArray.size (txt18 _ _).1 ≤ _; omega)
theorem mid590 (c : GCur) : mid (IntKind.wrap .i64 (590 + (below c 14).1)) := by
  have h := below_b (c := c) (n := 14) (by decide)
  rw [w64i (by omega) (by omega)]
  exact ⟨by omega, by omega⟩
def in18 (c : GCur) : GIn × GCur := (bif (once (once (turned (text18 c).2 (text18 c).1 ([(⟨#[13]⟩ : ByteArray), (⟨#[10]⟩ : ByteArray), (⟨#[13, 10]⟩ : ByteArray), (⟨#[120]⟩ : ByteArray), (⟨#[123, 49, 125]⟩ : ByteArray)])).2 8).2 20).1 then ((longS (Int.toNat (IntKind.wrap .i64 (590 + (below (once (once (turned (text18 c).2 (text18 c).1 ([(⟨#[13]⟩ : ByteArray), (⟨#[10]⟩ : ByteArray), (⟨#[13, 10]⟩ : ByteArray), (⟨#[120]⟩ : ByteArray), (⟨#[123, 49, 125]⟩ : ByteArray)])).2 8).2 20).2 14).1))), (once (turned (text18 c).2 (text18 c).1 ([(⟨#[13]⟩ : ByteArray), (⟨#[10]⟩ : ByteArray), (⟨#[13, 10]⟩ : ByteArray), (⟨#[120]⟩ : ByteArray), (⟨#[123, 49, 125]⟩ : ByteArray)])).2 8).1), (below (once (once (turned (text18 c).2 (text18 c).1 ([(⟨#[13]⟩ : ByteArray), (⟨#[10]⟩ : ByteArray), (⟨#[13, 10]⟩ : ByteArray), (⟨#[120]⟩ : ByteArray), (⟨#[123, 49, 125]⟩ : ByteArray)])).2 8).2 20).2 14).2) else (((turned (text18 c).2 (text18 c).1 ([(⟨#[13]⟩ : ByteArray), (⟨#[10]⟩ : ByteArray), (⟨#[13, 10]⟩ : ByteArray), (⟨#[120]⟩ : ByteArray), (⟨#[123, 49, 125]⟩ : ByteArray)])).1, (once (turned (text18 c).2 (text18 c).1 ([(⟨#[13]⟩ : ByteArray), (⟨#[10]⟩ : ByteArray), (⟨#[13, 10]⟩ : ByteArray), (⟨#[120]⟩ : ByteArray), (⟨#[123, 49, 125]⟩ : ByteArray)])).2 8).1), (once (once (turned (text18 c).2 (text18 c).1 ([(⟨#[13]⟩ : ByteArray), (⟨#[10]⟩ : ByteArray), (⟨#[13, 10]⟩ : ByteArray), (⟨#[120]⟩ : ByteArray), (⟨#[123, 49, 125]⟩ : ByteArray)])).2 8).2 20).2))
instance in18_ok (c : GCur) [CurOk c] : CurOk (in18 c).2 := by
  unfold in18
  simp only [bif_if]
  repeat' split
  all_goals infer_instance
def k0ofnwg (c : GCur) : Prop := (true = true ∧ leC (.bool (once (turned (text18 c).2 (text18 c).1 ([(⟨#[13]⟩ : ByteArray), (⟨#[10]⟩ : ByteArray), (⟨#[13, 10]⟩ : ByteArray), (⟨#[120]⟩ : ByteArray), (⟨#[123, 49, 125]⟩ : ByteArray)])).2 8).1) (.bool (in18 c).1.2))
theorem m_s_l18In (c : GCur) (hpre : CurOk c) : MCalls Tryz.prog 43 (argsM 0 [(.b tyCur)] (c, ())) (preM 0 [(.b tyCur)] (c, ())) (postM 0 [(.b tyCur)] ((in18 c).2, ()) ++ []) (inpM 0 [(.b tyCur)]) (.ag [.str (in18 c).1.1, .bool (in18 c).1.2]) := by
  refine mcalls_of (T := ⟨[e_s_l17Long], [], [], [e_s_l18Text, e_s_l1Turned, e_s_l1Once, e_s_l1Below], none, fun _ => [], 1, [], []⟩) (L := L0) Tryz.func43 rfl rfl rfl (by kernel_rfl) (fun hwf hwm => ?_)
  refine Eq.mpr (β := (T3 ((cu c) ∧ (True ∧ ((((CurOk (text18 c).2 ∧ turnPre (text18 c).1 ([(⟨#[13]⟩ : ByteArray), (⟨#[10]⟩ : ByteArray), (⟨#[13, 10]⟩ : ByteArray), (⟨#[120]⟩ : ByteArray), (⟨#[123, 49, 125]⟩ : ByteArray)])) ∧ (((cuE (text18 c).2 (text18 c).2)) ∧ (([(⟨#[13]⟩ : ByteArray), (⟨#[10]⟩ : ByteArray), (⟨#[13, 10]⟩ : ByteArray), (⟨#[120]⟩ : ByteArray), (⟨#[123, 49, 125]⟩ : ByteArray)]) = ([(⟨#[13]⟩ : ByteArray), (⟨#[10]⟩ : ByteArray), (⟨#[13, 10]⟩ : ByteArray), (⟨#[120]⟩ : ByteArray), (⟨#[123, 49, 125]⟩ : ByteArray)])) ∧ True)) ∧ true = true) ∧ ∀ r0 : List ByteArray, r0 = [(⟨#[13]⟩ : ByteArray), (⟨#[10]⟩ : ByteArray), (⟨#[13, 10]⟩ : ByteArray), (⟨#[120]⟩ : ByteArray), (⟨#[123, 49, 125]⟩ : ByteArray)] → (True ∧ ((cu (turned (text18 c).2 (text18 c).1 ([(⟨#[13]⟩ : ByteArray), (⟨#[10]⟩ : ByteArray), (⟨#[13, 10]⟩ : ByteArray), (⟨#[120]⟩ : ByteArray), (⟨#[123, 49, 125]⟩ : ByteArray)])).2) ∧ (T4 ((cu (once (turned (text18 c).2 (text18 c).1 ([(⟨#[13]⟩ : ByteArray), (⟨#[10]⟩ : ByteArray), (⟨#[13, 10]⟩ : ByteArray), (⟨#[120]⟩ : ByteArray), (⟨#[123, 49, 125]⟩ : ByteArray)])).2 8).2) ∧ (bif (once (once (turned (text18 c).2 (text18 c).1 ([(⟨#[13]⟩ : ByteArray), (⟨#[10]⟩ : ByteArray), (⟨#[13, 10]⟩ : ByteArray), (⟨#[120]⟩ : ByteArray), (⟨#[123, 49, 125]⟩ : ByteArray)])).2 8).2 20).1 then (True ∧ ((cu (once (once (turned (text18 c).2 (text18 c).1 ([(⟨#[13]⟩ : ByteArray), (⟨#[10]⟩ : ByteArray), (⟨#[13, 10]⟩ : ByteArray), (⟨#[120]⟩ : ByteArray), (⟨#[123, 49, 125]⟩ : ByteArray)])).2 8).2 20).2) ∧ (True ∧ ((mid (IntKind.wrap .i64 (590 + (below (once (once (turned (text18 c).2 (text18 c).1 ([(⟨#[13]⟩ : ByteArray), (⟨#[10]⟩ : ByteArray), (⟨#[13, 10]⟩ : ByteArray), (⟨#[120]⟩ : ByteArray), (⟨#[123, 49, 125]⟩ : ByteArray)])).2 8).2 20).2 14).1)) ∧ true = true) ∧ (T4 (((((cuE (below (once (once (turned (text18 c).2 (text18 c).1 ([(⟨#[13]⟩ : ByteArray), (⟨#[10]⟩ : ByteArray), (⟨#[13, 10]⟩ : ByteArray), (⟨#[120]⟩ : ByteArray), (⟨#[123, 49, 125]⟩ : ByteArray)])).2 8).2 20).2 14).2 (in18 c).2)) ∧ True) ∧ (((true = true ∧ leC (.str (longS (Int.toNat (IntKind.wrap .i64 (590 + (below (once (once (turned (text18 c).2 (text18 c).1 ([(⟨#[13]⟩ : ByteArray), (⟨#[10]⟩ : ByteArray), (⟨#[13, 10]⟩ : ByteArray), (⟨#[120]⟩ : ByteArray), (⟨#[123, 49, 125]⟩ : ByteArray)])).2 8).2 20).2 14).1))))) (.str (in18 c).1.1)) ∧ (k0ofnwg c) ∧ True))) ∧ true = true)))))) else (T2 (((((cuE (once (once (turned (text18 c).2 (text18 c).1 ([(⟨#[13]⟩ : ByteArray), (⟨#[10]⟩ : ByteArray), (⟨#[13, 10]⟩ : ByteArray), (⟨#[120]⟩ : ByteArray), (⟨#[123, 49, 125]⟩ : ByteArray)])).2 8).2 20).2 (in18 c).2)) ∧ True) ∧ (((true = true ∧ leC (.str (turned (text18 c).2 (text18 c).1 ([(⟨#[13]⟩ : ByteArray), (⟨#[10]⟩ : ByteArray), (⟨#[13, 10]⟩ : ByteArray), (⟨#[120]⟩ : ByteArray), (⟨#[123, 49, 125]⟩ : ByteArray)])).1) (.str (in18 c).1.1)) ∧ (k0ofnwg c) ∧ True))) ∧ true = true)))))))))))) (by kernel_rfl) ?_
  unfold k0ofnwg T2 T3 T4
  simp only [SIU, cuE_eq, cu_eq, eq_self]
  repeat' (with_reducible first | exact trivial | apply And.intro | apply bifI | intro _)
  all_goals first
    | (with_reducible trivial)
    | omega
    | (with_reducible infer_instance)
    | (simp only [in18, cond_true, cond_false, Int.toNat_natCast, *]; done)
    | (subst_vars; simp only [in18, cond_true, cond_false, Int.toNat_natCast, *]; done)
    | (simp only [in18, cond_true, cond_false, *]; exact leC_refl)
    | exact ⟨Nat.le_trans (text18_size _) (by decide), by decide, by decide⟩
    | exact mid590 _
def e_s_l18In : MEntry Tryz.prog := ⟨43, [(.b tyCur)], fun x => CurOk x.1, fun x => ((in18 x.1).2, ()), fun x => .ag [.str (in18 x.1).1.1, .bool (in18 x.1).1.2], fun _ => [], fun x hx => m_s_l18In x.1 hx, Tryz.call43⟩
theorem in18_size (c : GCur) : (in18 c).1.1.size ≤ 2000200 := by
  unfold in18
  simp only [bif_if]
  split
  · show (longS _).size ≤ _
    rw [longS_size]
    obtain ⟨h1, h2⟩ := mid590 (once (once (turned (text18 c).2 (text18 c).1 [(⟨#[13]⟩ : ByteArray), (⟨#[10]⟩ : ByteArray), (⟨#[13, 10]⟩ : ByteArray), (⟨#[120]⟩ : ByteArray), (⟨#[123, 49, 125]⟩ : ByteArray)]).2 8).2 20).2
    omega
  · refine Nat.le_trans (turned_size ⟨Nat.le_trans (text18_size _) (by decide), by decide, by decide⟩) ?_
    have := text18_size c
    omega
def hashN (code : List Int) : Nat → Int
  | 0 => IntKind.wrap .i64 (28544 + ((List.length code : Nat) : Int))
  | k + 1 => IntKind.wrap .i64 (((BitVec.ofInt (IntKind.bits .i64) (IntKind.wrap .i64 (IntKind.wrap .i64 (IntKind.wrap .i64 (hashN code k * 131) + IntKind.wrap .i64 (nth (.int .u8) code k)) + 7)) &&& BitVec.ofInt (IntKind.bits .i64) 1073741823).toNat : Nat))
def newC (code : List Int) : GCur := (code, 0, hashN code (min code.length 4000))
theorem newC_ok {code : List Int} (h : code.length ≤ maxLen) : CurOk (newC code) := ⟨Int.le_refl _, Int.natCast_nonneg _, h⟩
def L_s_l1New (code : List Int) : Nat → List AV → Mem → LoopA
  | 3, tm, M => ⟨Nat, fun y => (anyR (setA tm [(3, .c (.int .i64 (hashN code y))), (4, .c (.int .i64 ((y : Nat) : Int)))]) 8 20, M), fun y => (y ≤ List.length code ∧ y ≤ 4000), fun y => (List.length code - y)⟩
  | _, _, _ => ⟨Unit, fun _ => ([], []), fun _ => False, fun _ => 0⟩
def k0onu1v (code : List Int) (y0 : Nat) : Prop := (T5 ((((true = true ∧ leC (.hs .no (.int .u8) code) (.hs .no (.int .u8) (newC code).1)) ∧ (true = true ∧ leC (.int .i64 0) (.int .i64 (newC code).2.1)) ∧ (true = true ∧ leC (.int .i64 (hashN code y0)) (.int .i64 (newC code).2.2)) ∧ True)) ∧ true = true))
theorem b_s_l1New (code : List Int) : BCalls Tryz.prog 42 [.c (.hs .no (.int .u8) code)] (.c (.bp 0 0)) [.box [.hs .no (.int .u8) (newC code).1, .int .i64 (newC code).2.1, .int .i64 (newC code).2.2]] := by
  refine bc0 [] [] [] [] (L_s_l1New code) Tryz.func42 (fun hwf => ?_)
  refine Eq.mpr (β := (T6 ((∃ q : Nat, (q ≤ List.length code ∧ q ≤ 4000) ∧ ((lxs [.c (.hs .no (.int .u8) code), .tp [], .c (.raw (.pointer none))] (leV (.c (.int .i64 (IntKind.wrap .i64 (28544 + ((List.length code : Nat) : Int))))) (.c (.int .i64 (hashN code q))) ∧ leV (.c (.int .i64 0)) (.c (.int .i64 ((q : Nat) : Int))) ∧ lxs [.c (.hs .no (.int .u8) code), .c (.int .i64 ((List.length code : Nat) : Int)), .c (.int .i64 (IntKind.wrap .i64 (28544 + ((List.length code : Nat) : Int))))] (TN 20 (lxs [.tp [], .tp [], .tp [], .tp []] True)))) ∧ (True) ∧ true = true)) ∧ ∀ y0 : Nat, (y0 ≤ List.length code ∧ y0 ≤ 4000) → (T5 (bif (ltI ((y0 : Nat) : Int) ((List.length code : Nat) : Int)) then (T3 (bif (ltI ((y0 : Nat) : Int) 4000) then (T4 (((1 : Nat) = 1 ∧ (0 : Int) ≤ ((y0 : Nat) : Int) ∧ (((y0 : Nat) : Int) : Int) < ((List.length code : Nat) : Int)) ∧ (True ∧ (true = true ∧ (T7 (∃ y0' : Nat, (y0' ≤ List.length code ∧ y0' ≤ 4000) ∧ (List.length code - y0') < (List.length code - y0) ∧ ((lxs [.c (.hs .no (.int .u8) code), .tp [], .c (.raw (.pointer none))] (leV (.c (.int .i64 (IntKind.wrap .i64 (((BitVec.ofInt (IntKind.bits .i64) (IntKind.wrap .i64 ((IntKind.wrap .i64 ((IntKind.wrap .i64 ((hashN code y0) * 131)) + (IntKind.wrap .i64 (nth (.int .u8) code (Int.toNat ((y0 : Nat) : Int)))))) + 7)) &&& BitVec.ofInt (IntKind.bits .i64) 1073741823).toNat : Nat))))) (.c (.int .i64 (hashN code y0'))) ∧ leV (.c (.int .i64 (IntKind.wrap .i64 (((y0 : Nat) : Int) + 1)))) (.c (.int .i64 ((y0' : Nat) : Int))) ∧ lxs [.c (.hs .no (.int .u8) code), .c (.int .i64 ((List.length code : Nat) : Int)), .c (.int .i64 (IntKind.wrap .i64 (28544 + ((List.length code : Nat) : Int))))] (TN 20 (lxs [.tp [], .tp [], .tp [], .tp []] True)))) ∧ (True) ∧ true = true))))))) else (k0onu1v code y0))) else (True ∧ (k0onu1v code y0))))))) (by kernel_rfl) ?_
  unfold k0onu1v T3 T4 T5 T6 T7
  have hm : List.length code ≤ maxLen := hwf.1.1
  unfold maxLen at hm
  simp only [cuE_eq, cu_eq, leB_cur, SI2A, eq_self]
  repeat' (with_reducible first | exact trivial | apply And.intro | intro _)
  all_goals first
    | (with_reducible trivial)
    | omega
    | (with_reducible assumption)
    | exact ⟨0, ⟨Nat.zero_le _, Nat.zero_le _⟩, rfl, rfl⟩
    | (rename_i y hy _ _; exact ⟨y + 1, ⟨by omega, by omega⟩, by omega, rfl, wrapN (by unfold maxLen; omega)⟩)
    | exact leC_refl
    | rfl
    | (rename_i y hy _ _; show _ = hashN code (min _ _); rw [show min (List.length code) 4000 = y by omega])
    | (rename_i y hy _; show _ = hashN code (min _ _); rw [show min (List.length code) 4000 = y by omega])
def e_s_l1New : Entry Tryz.prog := ⟨42, [.v (.list (.int .u8))], fun x => True, fun x => .c (.bp 0 0), fun x => [.box [.hs .no (.int .u8) (newC x.1).1, .int .i64 (newC x.1).2.1, .int .i64 (newC x.1).2.2]], fun x hx => b_s_l1New x.1, Tryz.call42⟩
end Go.Proofs.YtbpapaponnfagaaGreatDoor
