/-
  What is told of a box that is selected.
  No condition but what the arguments' cells hold. Printed by vcgen.py.
-/
import Derived.Test.YtoigkpkafgjeaaaBBlL15b
set_option linter.unusedSimpArgs false
set_option linter.unusedVariables false
set_option maxRecDepth 100000
set_option maxHeartbeats 4000000
namespace Go.Proofs.Ytoigkpkafgjeaaa
open Go.ChangeShapes Go.WideShapes Go.ChangeAt Go.RowKit Go.Joins Go.Deep
open GoRep (rep bulk)

def viewOf (b : GBox) : GView := b.2.2.2.map (fun m => (m.1, m.2.1))
def viewN (b : GBox) (k : Nat) : List GSeen := (List.take k b.2.2.2).map (fun m => (m.1, m.2.1))
def L_s_ViewOf (b : GBox) : Nat → List AV → Mem → LoopA
  | 3, tm, M => ⟨Nat, fun y => (anyR (setA tm [(4, .c (.int .i64 ((y : Nat) : Int)))]) 6 25, setM M [(2, .box [.row 3 0]), (3, .row tySpan (viewN b y) 0 0 none)]), fun y => (y ≤ List.length b.2.2.2), fun y => (List.length b.2.2.2 - y)⟩
  | _, _, _ => ⟨Unit, fun _ => ([], []), fun _ => False, fun _ => 0⟩
def k0li0zg (b : GBox) : List AC := [.str b.1, .int .i64 b.2.1, .int .i64 b.2.2.1, .hs .no tyMsg b.2.2.2]
theorem b_s_ViewOf (b : GBox) (hpre : List.length b.2.2.2 ≤ 1048576) : BCalls Try.prog 87 [.ag (cellsOf tyBox b)] (.ag [.row 0 0]) [.row tySpan (viewOf b) 0 0 none] := by
  refine bcalls_of (T := ⟨[], [], [], [], none, fun i => match i with | 3 => [⟨some 2, 0, tySpan⟩] | _ => [], 0, [], []⟩) (L := (L_s_ViewOf b)) Try.func87 ⟨⟨rfl, rfl⟩, rfl⟩ (fun hwf => ?_)
  refine Eq.mpr (β := (T6 ((∃ q : Nat, (q ≤ List.length b.2.2.2) ∧ ((lxs [.ag (k0li0zg b), .c (.bp 0 0), .c (.bp 1 0), .c (.bp 2 0)] (leV (.c (.int .i64 0)) (.c (.int .i64 ((q : Nat) : Int))) ∧ lxs [.ag [.raw (.slice none 0 0)]] (TN 25 (lxs [.tp []] True)))) ∧ (lb (.box (k0li0zg b)) ∧ lb (.box [.raw (.slice none 0 0)]) ∧ lb (.box [.row 3 0]) ∧ leB (.row tySpan ([] : List GSpan) 0 0 none) (.row tySpan (viewN b q) 0 0 none) ∧ True) ∧ true = true)) ∧ ∀ y0 : Nat, (y0 ≤ List.length b.2.2.2) → (T5 (bif (ltI ((y0 : Nat) : Int) ((List.length b.2.2.2 : Nat) : Int)) then ((true = true ∧ true = true) ∧ (T5 (((3 : Nat) = 3 ∧ (0 : Int) ≤ ((y0 : Nat) : Int) ∧ (((y0 : Nat) : Int) : Int) < ((List.length b.2.2.2 : Nat) : Int)) ∧ (T5 (((3 : Nat) = 3 ∧ (0 : Int) ≤ ((y0 : Nat) : Int) ∧ (((y0 : Nat) : Int) : Int) < ((List.length b.2.2.2 : Nat) : Int)) ∧ (T4 ((True ∧ List.length (viewN b y0) + List.length ([((nth_Msg b.2.2.2 (Int.toNat ((y0 : Nat) : Int))).1, (nth_Msg b.2.2.2 (Int.toNat ((y0 : Nat) : Int))).2.1)]) ≤ rowMax) ∧ (T5 (∃ y0' : Nat, (y0' ≤ List.length b.2.2.2) ∧ (List.length b.2.2.2 - y0') < (List.length b.2.2.2 - y0) ∧ ((lxs [.ag (k0li0zg b), .c (.bp 0 0), .c (.bp 1 0), .c (.bp 2 0)] (leV (.c (.int .i64 (IntKind.wrap .i64 (((y0 : Nat) : Int) + 1)))) (.c (.int .i64 ((y0' : Nat) : Int))) ∧ lxs [.ag [.raw (.slice none 0 0)]] (TN 25 (lxs [.tp []] True)))) ∧ (lb (.box (k0li0zg b)) ∧ lb (.box [.raw (.slice none 0 0)]) ∧ lb (.box [.row 3 0]) ∧ leB (.row tySpan (viewN b y0 ++ [((nth_Msg b.2.2.2 (Int.toNat ((y0 : Nat) : Int))).1, (nth_Msg b.2.2.2 (Int.toNat ((y0 : Nat) : Int))).2.1)]) 0 0 none) (.row tySpan (viewN b y0') 0 0 none) ∧ True) ∧ true = true)))))))))) else (T2 (((((viewN b y0) = (viewOf b)) ∧ True)) ∧ true = true))))))) (by kernel_rfl) ?_
  unfold k0li0zg T2 T4 T5 T6
  have hv : ∀ k, (viewN b k).length ≤ List.length b.2.2.2 := fun k => by unfold viewN; rw [List.length_map, List.length_take]; omega
  have hs : ∀ k, k < List.length b.2.2.2 → viewN b k ++ [((nth_Msg b.2.2.2 k).1, (nth_Msg b.2.2.2 k).2.1)] = viewN b (k + 1) := fun k hk => by
    unfold viewN
    rw [List.take_add_one, show b.2.2.2[k]? = some (nth_Msg b.2.2.2 k) from nth_getElem? (t := tyMsg) hk, List.map_append]
    rfl
  have he : viewN b (List.length b.2.2.2) = viewOf b := by unfold viewN viewOf; rw [List.take_length]
  have hm : List.length b.2.2.2 ≤ 1048576 := hpre
  have hr : 1048576 + 1 ≤ rowMax := by decide
  simp only [btw_iff, btw_not, flagsOk, Bool.not_true, Bool.not_false, SI2A, eq_self]
  refine ⟨⟨0, Nat.zero_le _, rfl, rfl⟩, fun k hk => ⟨fun hlt => ?_, fun hge => ?_⟩⟩
  · have hk2 := hv k
    repeat' (first | apply And.intro | intro _)
    all_goals first
      | trivial
      | omega
      | (rw [List.length_singleton]; omega)
      | exact ⟨k + 1, by omega, by omega, wrapN (by unfold maxLen; omega), hs k (by omega)⟩
  · obtain rfl : k = List.length b.2.2.2 := by omega
    repeat' (first | apply And.intro | intro _)
    all_goals first
      | trivial
      | exact he
def e_s_ViewOf : Entry Try.prog := ⟨87, [.s tyBox], fun x => List.length x.1.2.2.2 ≤ 1048576, fun x => .ag [.row 0 0], fun x => [.row tySpan (viewOf x.1) 0 0 none], fun x hx => b_s_ViewOf x.1 hx, Try.call87⟩
def selN (b : GBox) : Nat → List GReply
  | 0 => [(9, 0, 0, 0, (⟨#[]⟩ : ByteArray), (⟨#[]⟩ : ByteArray)), (1, ((List.length b.2.2.2 : Nat) : Int), 0, 0, (⟨#[]⟩ : ByteArray), (⟨#[]⟩ : ByteArray))]
  | k + 1 => selN b k ++ [(3, ((k : Nat) : Int) + 1, (nth_Msg b.2.2.2 k).1, (nth_Msg b.2.2.2 k).2.1, (⟨#[]⟩ : ByteArray), (⟨#[]⟩ : ByteArray))]
def selL (b : GBox) : List GReply := if boxOk b = true then selN b b.2.2.2.length ++ [(8, b.2.1, 0, 0, b.1, (⟨#[]⟩ : ByteArray))] else []
theorem selN_len (b : GBox) : ∀ k, (selN b k).length = k + 2
  | 0 => rfl
  | k + 1 => by unfold selN; rw [List.length_append, selN_len b k]; rfl
theorem selL_len (b : GBox) : (selL b).length ≤ 9 := by
  unfold selL
  split
  · rename_i h
    have h1 := (boxOk_iff.1 h).2.2.2.2
    rw [List.length_append, selN_len]
    show _ + 1 ≤ 9
    omega
  · exact Nat.zero_le _
theorem selN_s {b : GBox} {k : Nat} : selN b k ++ [(3, ((k : Nat) : Int) + 1, (nth_Msg b.2.2.2 k).1, (nth_Msg b.2.2.2 k).2.1, (⟨#[]⟩ : ByteArray), (⟨#[]⟩ : ByteArray))] = selN b (k + 1) := rfl
theorem selL_y {b : GBox} (h : boxOk b = true) : selN b b.2.2.2.length ++ [(8, b.2.1, 0, 0, b.1, (⟨#[]⟩ : ByteArray))] = selL b := (if_pos h).symm
theorem selL_n {b : GBox} (h : boxOk b = false) : ([] : List GReply) = selL b := (if_neg (by rw [h]; decide)).symm
def L_s_Selecting (b : GBox) : Nat → List AV → Mem → LoopA
  | 6, tm, M => ⟨Nat, fun y => (anyR (setA tm [(3, .c (.row 1 0)), (4, .c (.int .i64 ((y : Nat) : Int)))]) 17 26, setM M [(1, .row tyCommit (selN b y) 0 0 none)]), fun y => (y ≤ List.length b.2.2.2), fun y => (List.length b.2.2.2 - y)⟩
  | _, _, _ => ⟨Unit, fun _ => ([], []), fun _ => False, fun _ => 0⟩
def k0c6bri (b : GBox) : List AC := [.str b.1, .int .i64 b.2.1, .int .i64 b.2.2.1, .hs .no tyMsg b.2.2.2]
theorem b_s_Selecting (b : GBox) : BCalls Try.prog 86 [.ag (cellsOf tyBox b)] (.c (.row 0 0)) [.row tyCommit (selL b) 0 0 none] := by
  refine bc0 [e_s_BoxOk] [] [] [] (L_s_Selecting b) Try.func86 (fun hwf => ?_)
  refine Eq.mpr (β := (T5 ((True ∧ true = true) ∧ (True ∧ (bif (!(boxOk b)) then (T2 ((([] : List GCommit) = (selL b)) ∧ true = true)) else (T7 ((True ∧ List.length ([] : List GCommit) + List.length ([(9, (0, (0, (0, ((⟨#[]⟩ : ByteArray), (⟨#[]⟩ : ByteArray)))))), (1, (((List.length b.2.2.2 : Nat) : Int), (0, (0, ((⟨#[]⟩ : ByteArray), (⟨#[]⟩ : ByteArray))))))] : List GCommit) ≤ rowMax) ∧ (T2 ((∃ q : Nat, (q ≤ List.length b.2.2.2) ∧ ((lxs [.ag (k0c6bri b), .c (.bp 0 0), .c (.raw (.slice none 0 0)), .c (.row 1 0)] (leV (.c (.int .i64 0)) (.c (.int .i64 ((q : Nat) : Int))) ∧ lxs [.c (.junk), .ag (k0c6bri b), .c (.bool (boxOk b)), .c (.bool false), .tp [], .c (.junk), .ag [.int .i64 9, .int .i64 0, .int .i64 0, .int .i64 0, .str (⟨#[]⟩ : ByteArray), .str (⟨#[]⟩ : ByteArray)], .c (.bp 0 3), .c (.hs .no tyMsg b.2.2.2), .c (.int .i64 ((List.length b.2.2.2 : Nat) : Int)), .ag [.int .i64 1, .int .i64 ((List.length b.2.2.2 : Nat) : Int), .int .i64 0, .int .i64 0, .str (⟨#[]⟩ : ByteArray), .str (⟨#[]⟩ : ByteArray)], .c (.row 2 0)] (TN 26 (lxs [.tp [], .tp [], .tp [], .tp [], .tp [], .tp [], .tp [], .tp []] True)))) ∧ (lb (.box (k0c6bri b)) ∧ leB (.row tyCommit (([] : List GCommit) ++ ([(9, (0, (0, (0, ((⟨#[]⟩ : ByteArray), (⟨#[]⟩ : ByteArray)))))), (1, (((List.length b.2.2.2 : Nat) : Int), (0, (0, ((⟨#[]⟩ : ByteArray), (⟨#[]⟩ : ByteArray))))))] : List GCommit)) 0 0 none) (.row tyCommit (selN b q) 0 0 none) ∧ lb (.row tyCommit ([(9, (0, (0, (0, ((⟨#[]⟩ : ByteArray), (⟨#[]⟩ : ByteArray)))))), (1, (((List.length b.2.2.2 : Nat) : Int), (0, (0, ((⟨#[]⟩ : ByteArray), (⟨#[]⟩ : ByteArray))))))] : List GCommit) 0 0 none) ∧ True) ∧ true = true)) ∧ ∀ y0 : Nat, (y0 ≤ List.length b.2.2.2) → (T5 (bif (ltI ((y0 : Nat) : Int) ((List.length b.2.2.2 : Nat) : Int)) then ((true = true ∧ true = true) ∧ (T6 (((3 : Nat) = 3 ∧ (0 : Int) ≤ ((y0 : Nat) : Int) ∧ (((y0 : Nat) : Int) : Int) < ((List.length b.2.2.2 : Nat) : Int)) ∧ (T5 (((3 : Nat) = 3 ∧ (0 : Int) ≤ ((y0 : Nat) : Int) ∧ (((y0 : Nat) : Int) : Int) < ((List.length b.2.2.2 : Nat) : Int)) ∧ (T4 ((True ∧ List.length (selN b y0) + List.length ([(3, ((IntKind.wrap .i64 (((y0 : Nat) : Int) + 1)), ((nth_Msg b.2.2.2 (Int.toNat ((y0 : Nat) : Int))).1, ((nth_Msg b.2.2.2 (Int.toNat ((y0 : Nat) : Int))).2.1, ((⟨#[]⟩ : ByteArray), (⟨#[]⟩ : ByteArray))))))] : List GCommit) ≤ rowMax) ∧ (T4 (∃ y0' : Nat, (y0' ≤ List.length b.2.2.2) ∧ (List.length b.2.2.2 - y0') < (List.length b.2.2.2 - y0) ∧ ((lxs [.ag (k0c6bri b), .c (.bp 0 0), .c (.raw (.slice none 0 0)), .c (.row 1 0)] (leV (.c (.int .i64 (IntKind.wrap .i64 (((y0 : Nat) : Int) + 1)))) (.c (.int .i64 ((y0' : Nat) : Int))) ∧ lxs [.c (.junk), .ag (k0c6bri b), .c (.bool (boxOk b)), .c (.bool false), .tp [], .c (.junk), .ag [.int .i64 9, .int .i64 0, .int .i64 0, .int .i64 0, .str (⟨#[]⟩ : ByteArray), .str (⟨#[]⟩ : ByteArray)], .c (.bp 0 3), .c (.hs .no tyMsg b.2.2.2), .c (.int .i64 ((List.length b.2.2.2 : Nat) : Int)), .ag [.int .i64 1, .int .i64 ((List.length b.2.2.2 : Nat) : Int), .int .i64 0, .int .i64 0, .str (⟨#[]⟩ : ByteArray), .str (⟨#[]⟩ : ByteArray)], .c (.row 2 0)] (TN 26 (lxs [.tp [], .tp [], .tp [], .tp [], .tp [], .tp [], .tp [], .tp []] True)))) ∧ (lb (.box (k0c6bri b)) ∧ leB (.row tyCommit ((selN b y0) ++ ([(3, ((IntKind.wrap .i64 (((y0 : Nat) : Int) + 1)), ((nth_Msg b.2.2.2 (Int.toNat ((y0 : Nat) : Int))).1, ((nth_Msg b.2.2.2 (Int.toNat ((y0 : Nat) : Int))).2.1, ((⟨#[]⟩ : ByteArray), (⟨#[]⟩ : ByteArray))))))] : List GCommit)) 0 0 none) (.row tyCommit (selN b y0') 0 0 none) ∧ lb (.row tyCommit ([(9, (0, (0, (0, ((⟨#[]⟩ : ByteArray), (⟨#[]⟩ : ByteArray)))))), (1, (((List.length b.2.2.2 : Nat) : Int), (0, (0, ((⟨#[]⟩ : ByteArray), (⟨#[]⟩ : ByteArray))))))] : List GCommit) 0 0 none) ∧ True) ∧ true = true)))))))))) else (T7 ((True ∧ List.length (selN b y0) + List.length ([(8, (b.2.1, (0, (0, (b.1, (⟨#[]⟩ : ByteArray))))))] : List GCommit) ≤ rowMax) ∧ (True ∧ ((((selN b y0) ++ ([(8, (b.2.1, (0, (0, (b.1, (⟨#[]⟩ : ByteArray))))))] : List GCommit)) = (selL b)) ∧ true = true))))))))))))))) (by kernel_rfl) ?_
  unfold k0c6bri T2 T4 T5 T6 T7
  have hl := selN_len b
  have h6 : boxOk b = true → b.2.2.2.length ≤ 6 := fun h => (boxOk_iff.1 h).2.2.2.2
  simp only [leB_rowU8, btw_iff, btw_not, flagsOk, Bool.not_true, Bool.not_false, SI2A, eq_self]
  repeat' (with_reducible first | exact trivial | apply And.intro | intro _)
  all_goals first
    | (with_reducible trivial)
    | omega
    | (with_reducible assumption)
    | exact selL_n (by assumption)
    | ((try simp only [List.length_nil, List.length_cons, List.length_append, hl]); unfold rowMax; (have := h6 (by assumption)); omega)
    | ((try simp only [List.length_nil, List.length_cons, List.length_append]); unfold rowMax; omega)
    | exact ⟨0, Nat.zero_le _, rfl, rfl⟩
    | (rename_i y hy hlt; have := h6 (by assumption); refine ⟨y + 1, by omega, by omega, wrapN (by unfold maxLen; omega), ?_⟩; rw [w64i (by omega) (by omega)]; exact selN_s)
    | (rename_i y hy hge; obtain rfl : y = List.length b.2.2.2 := by omega
       exact selL_y (by assumption))
def e_s_Selecting : Entry Try.prog := ⟨86, [.s tyBox], fun x => True, fun x => .c (.row 0 0), fun x => [.row tyCommit (selL x.1) 0 0 none], fun x hx => b_s_Selecting x.1, Try.call86⟩
end Go.Proofs.Ytoigkpkafgjeaaa
