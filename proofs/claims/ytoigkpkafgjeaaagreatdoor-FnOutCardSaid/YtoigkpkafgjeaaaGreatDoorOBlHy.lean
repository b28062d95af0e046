/-
  Several texts in one.
-/
import Derived.Test.YtoigkpkafgjeaaaGreatDoorOBlCmd2
import Derived.Test.YtoigkpkafgjeaaaGreatDoorOBlNum
import Derived.Shelf.Strings.OnBuilder
import Derived.Shelf.Strings.BuilderK
import Derived.Test.YtoigkpkafgjeaaaGreatDoorORep
import Derived.Laws.IdiomStrings
import Derived.Shelf.Hex.More
set_option linter.unusedSimpArgs false
set_option linter.unusedVariables false
set_option maxRecDepth 100000
set_option maxHeartbeats 4000000
namespace Go.Proofs.YtoigkpkafgjeaaaGreatDoor
open Go.ChangeShapes Go.WideShapes Go.ChangeAt Go.RowKit Go.Joins Go.Deep
open GoRep (rep bulk)

theorem b_i_Digits (n : Int) : BCalls Tryz.prog 56 [.c (.int .i64 n)] (.c (.str (⟨(Lib.itoa n).toArray⟩ : ByteArray))) [] := by
  refine bc0 [e_strconv_Itoa] [] [] [] L0 Tryz.func56 (fun hwf => ?_)
  refine Eq.mpr (β := (True ∧ (True ∧ ((True ∧ true = true) ∧ (True ∧ (rS (⟨(Lib.itoa n).toArray⟩ : ByteArray) (⟨(Lib.itoa n).toArray⟩ : ByteArray))))))) (by kernel_rfl) ?_
  simp only [btw_iff, btw_not, flagsOk, Bool.not_true, Bool.not_false, SI2A, eq_self]
  repeat' (first | trivial | apply And.intro | intro _)
  all_goals first
    | (with_reducible trivial)
    | omega
    | (with_reducible assumption)
def e_i_Digits : Entry Tryz.prog := ⟨56, [.v tyInt], fun x => True, fun x => .c (.str (⟨(Lib.itoa x.1).toArray⟩ : ByteArray)), fun _ => [], fun x hx => b_i_Digits x.1, Tryz.call56⟩
end Go.Proofs.YtoigkpkafgjeaaaGreatDoor
set_option linter.unusedSimpArgs false
set_option linter.unusedVariables false
set_option maxRecDepth 100000
namespace Go.Proofs.YtoigkpkafgjeaaaGreatDoor
open Go.Deep
open GoRep (rep)
def ren_join_156 : Go.Shelf.Ren := ⟨fun | 156 => 86 | 165 => 101 | 166 => 26 | 169 => 28 | 240 => 55 | 241 => 115 | 276 => 71 | 277 => 123 | n => n,
  fun | 31 => 67 | 9 => 9 | 3 => 3 | 4 => 4 | 0 => 0 | 20 => 20 | 72 => 50 | 76 => 53 | 70 => 48 | 37 => 22 | 75 => 52 | 127 => 71 | 164 => 80 | 5 => 5 | 80 => 55 | n => n,
  fun  | n => n⟩
open Go.Shelf in
theorem lay_join_156 : Lays.n156 Tryz.prog ren_join_156 where
  mixed := by kernel_rfl
  f156 := Tryz.func86.trans (congrArg some (by kernel_rfl))
  f165 := Tryz.func101.trans (congrArg some (by kernel_rfl))
  f166 := Tryz.func26.trans (congrArg some (by kernel_rfl))
  f169 := Tryz.func28.trans (congrArg some (by kernel_rfl))
  f240 := Tryz.func55.trans (congrArg some (by kernel_rfl))
  f241 := Tryz.func115.trans (congrArg some (by kernel_rfl))
  f276 := Tryz.func71.trans (congrArg some (by kernel_rfl))
  f277 := Tryz.func123.trans (congrArg some (by kernel_rfl))
  t0 := Tryz.underlying0
  a0 := Tryz.isAgg0
  z0 := Tryz.sizeOf0
  v0 := Tryz.zeroValue0
  t3 := Tryz.underlying3
  a3 := Tryz.isAgg3
  z3 := Tryz.sizeOf3
  v3 := Tryz.zeroValue3
  t4 := Tryz.underlying4
  a4 := Tryz.isAgg4
  z4 := Tryz.sizeOf4
  v4 := Tryz.zeroValue4
  t9 := Tryz.underlying9
  a9 := Tryz.isAgg9
  z9 := Tryz.sizeOf9
  v9 := Tryz.zeroValue9
  t20 := Tryz.underlying20
  a20 := Tryz.isAgg20
  z20 := Tryz.sizeOf20
  v20 := Tryz.zeroValue20
  t31 := Tryz.underlying67
  a31 := Tryz.isAgg67
  z31 := Tryz.sizeOf67
  v31 := Tryz.zeroValue67
  t37 := Tryz.underlying22
  a37 := Tryz.isAgg22
  z37 := Tryz.sizeOf22
  v37 := Tryz.zeroValue22
  t70 := Tryz.underlying48
  a70 := Tryz.isAgg48
  z70 := Tryz.sizeOf48
  v70 := Tryz.zeroValue48
  t72 := Tryz.underlying50
  a72 := Tryz.isAgg50
  z72 := Tryz.sizeOf50
  v72 := Tryz.zeroValue50
  t75 := Tryz.underlying52
  a75 := Tryz.isAgg52
  z75 := Tryz.sizeOf52
  v75 := Tryz.zeroValue52
  t76 := Tryz.underlying53
  a76 := Tryz.isAgg53
  z76 := Tryz.sizeOf53
  v76 := Tryz.zeroValue53
  t127 := Tryz.underlying71
  a127 := Tryz.isAgg71
  z127 := Tryz.sizeOf71
  v127 := Tryz.zeroValue71
  t164 := Tryz.underlying80
  a164 := Tryz.isAgg80
  z164 := Tryz.sizeOf80
  v164 := Tryz.zeroValue80
theorem joinExtra : Builder.Extra Tryz.prog ren_join_156 where
  sizeBuilder := by kernel_rfl
  liesBuilder := by kernel_rfl
  t5 := Tryz.underlying5
  a5 := Tryz.isAgg5
  z5 := Tryz.sizeOf5
  v5 := Tryz.zeroValue5
  infoByte := by kernel_rfl
  cellsByte := by kernel_rfl
  sizeByte := by kernel_rfl
  neB5 := by decide
open Go.Shelf in
theorem lay_join_166 : Lays.n166 Tryz.prog ren_join_156 where
  mixed := by kernel_rfl
  f166 := Tryz.func26.trans (congrArg some (by kernel_rfl))
  f240 := Tryz.func55.trans (congrArg some (by kernel_rfl))
  f276 := Tryz.func71.trans (congrArg some (by kernel_rfl))
  t0 := Tryz.underlying0
  a0 := Tryz.isAgg0
  z0 := Tryz.sizeOf0
  v0 := Tryz.zeroValue0
  t3 := Tryz.underlying3
  a3 := Tryz.isAgg3
  z3 := Tryz.sizeOf3
  v3 := Tryz.zeroValue3
  t4 := Tryz.underlying4
  a4 := Tryz.isAgg4
  z4 := Tryz.sizeOf4
  v4 := Tryz.zeroValue4
  t9 := Tryz.underlying9
  a9 := Tryz.isAgg9
  z9 := Tryz.sizeOf9
  v9 := Tryz.zeroValue9
  t20 := Tryz.underlying20
  a20 := Tryz.isAgg20
  z20 := Tryz.sizeOf20
  v20 := Tryz.zeroValue20
  t37 := Tryz.underlying22
  a37 := Tryz.isAgg22
  z37 := Tryz.sizeOf22
  v37 := Tryz.zeroValue22
  t70 := Tryz.underlying48
  a70 := Tryz.isAgg48
  z70 := Tryz.sizeOf48
  v70 := Tryz.zeroValue48
  t72 := Tryz.underlying50
  a72 := Tryz.isAgg50
  z72 := Tryz.sizeOf50
  v72 := Tryz.zeroValue50
  t75 := Tryz.underlying52
  a75 := Tryz.isAgg52
  z75 := Tryz.sizeOf52
  v75 := Tryz.zeroValue52
  t164 := Tryz.underlying80
  a164 := Tryz.isAgg80
  z164 := Tryz.sizeOf80
  v164 := Tryz.zeroValue80
open Go.Shelf in
theorem lay_join_169 : Lays.n169 Tryz.prog ren_join_156 where
  mixed := by kernel_rfl
  f169 := Tryz.func28.trans (congrArg some (by kernel_rfl))
  t0 := Tryz.underlying0
  a0 := Tryz.isAgg0
  z0 := Tryz.sizeOf0
  v0 := Tryz.zeroValue0
  t3 := Tryz.underlying3
  a3 := Tryz.isAgg3
  z3 := Tryz.sizeOf3
  v3 := Tryz.zeroValue3
  t9 := Tryz.underlying9
  a9 := Tryz.isAgg9
  z9 := Tryz.sizeOf9
  v9 := Tryz.zeroValue9
  t37 := Tryz.underlying22
  a37 := Tryz.isAgg22
  z37 := Tryz.sizeOf22
  v37 := Tryz.zeroValue22
  t70 := Tryz.underlying48
  a70 := Tryz.isAgg48
  z70 := Tryz.sizeOf48
  v70 := Tryz.zeroValue48
  t72 := Tryz.underlying50
  a72 := Tryz.isAgg50
  z72 := Tryz.sizeOf50
  v72 := Tryz.zeroValue50
  t127 := Tryz.underlying71
  a127 := Tryz.isAgg71
  z127 := Tryz.sizeOf71
  v127 := Tryz.zeroValue71
theorem unbyte (s : ByteArray) : (byteL s).map (fun n => UInt8.ofNat n.toNat) = s.data.toList := by
  unfold byteL
  rw [List.map_map]
  conv => rhs; rw [← List.map_id s.data.toList]
  apply List.map_congr_left
  intro x _
  simp
theorem join_snoc (ys : List (List UInt8)) (y sep : List UInt8) : Lib.join (ys ++ [y]) sep = (if 0 < ys.length then Lib.join ys sep ++ sep else []) ++ y := by
  cases ys with
  | nil => exact Lib.join_one y sep
  | cons x r =>
    have hl : 0 < (x :: r).length := Nat.succ_pos _
    rw [List.cons_append, Lib.join_cons, Lib.join_cons, if_pos hl]
    simp [Lib.joinTail]
theorem joN_join (l : List ByteArray) (b : ByteArray) : ∀ k, k ≤ l.length → (joN l b k).map (fun n => UInt8.ofNat n.toNat) = Lib.join ((l.take k).map (·.data.toList)) b.data.toList
  | 0, _ => rfl
  | k + 1, h => by
    have ih := joN_join l b k (by omega)
    have e : l.take (k + 1) = l.take k ++ [nth_String l k] := by rw [List.take_add_one, nthS_get (by omega)]; rfl
    have hl : ((l.take k).map (·.data.toList)).length = k := by rw [List.length_map, List.length_take]; omega
    rw [e, List.map_append, List.map_cons, List.map_nil, join_snoc, hl]
    unfold joN
    rw [List.map_append, unbyte]
    by_cases hk : 0 < k
    · rw [if_pos hk, if_pos hk, List.map_append, unbyte, ih]
    · rw [if_neg hk, if_neg hk]
      obtain rfl : k = 0 := by omega
      rfl
theorem joS_join (l : List ByteArray) (b : ByteArray) : joS l b = ⟨(Lib.join (l.map (·.data.toList)) b.data.toList).toArray⟩ := by
  unfold joS bytesOf
  rw [joN_join l b _ (Nat.le_refl _), List.take_length]
theorem b_strings_Join (l : List ByteArray) (b : ByteArray) (hpre : joPre l b) : BCalls Tryz.prog 86 [.c (.hs .no tyStr l), .c (.str b)] (.c (.str (joS l b))) [] := by
  intro X W vs hX hgl hr
  obtain ⟨v, r, rfl, hv, u, r2, rfl, ⟨rfl, hu⟩, hn⟩ := hr
  obtain rfl : r2 = [] := hn
  obtain ⟨h1, F, ⟨A, c, e, hc, hm, hs⟩, hF⟩ := hv
  obtain rfl : v = _ := (List.cons.inj e).1
  have hz := joS_size hpre
  have hp := hpre.1
  have hj : (Lib.join (l.map (·.data.toList)) b.data.toList).length = (joS l b).size := by rw [joS_join]; rfl
  have hw : (joS l b).size ≤ maxLen := by unfold maxLen; omega
  rcases hs with ⟨rfl, rfl⟩ | ⟨hx, bk, off, G, rfl, rfl, hR⟩
  · refine (Any.strings_Join_none lay_join_156 joinExtra A c b W).mono fun e W' he => ?_
    obtain ⟨rfl, rfl⟩ := he
    exact ⟨_, [], rfl, Grow.refl W' [], nilM hX, rfl, hw⟩
  · refine (Any.strings_Join lay_join_156 joinExtra bk off c l b W (fun j x hj => ?_) (hF bk (by simp)).2 (by omega) hc (by rw [hj]; omega)).mono fun e W' he => ?_
    · obtain ⟨cs, Gk, r1, _, r3⟩ := hR.get j x hj
      obtain ⟨rfl, _, _⟩ := r1
      have q : W.cell? ⟨bk, off + j * 1 + 0, none⟩ = some (.string x) := (r3 0 _ rfl).1
      rwa [Nat.mul_one, Nat.add_zero] at q
    · obtain ⟨rfl, hb⟩ := he
      rw [← joS_join]
      exact ⟨_, [], rfl, Grow.of_below hb, nilM (fun b hb' => Nat.lt_of_lt_of_le (hX b hb') hb.size), rfl, hw⟩
def e_strings_Join : Entry Tryz.prog := ⟨86, [.v (.list tyStr), .v tyStr], fun x => joPre x.1 x.2.1, fun x => .c (.str (joS x.1 x.2.1)), fun _ => [], fun x hx => b_strings_Join x.1 x.2.1 hx, Tryz.call86⟩
end Go.Proofs.YtoigkpkafgjeaaaGreatDoor
set_option linter.unusedSimpArgs false
set_option linter.unusedVariables false
set_option maxRecDepth 100000
set_option maxHeartbeats 4000000
namespace Go.Proofs.YtoigkpkafgjeaaaGreatDoor
open Go.ChangeShapes Go.WideShapes Go.ChangeAt Go.RowKit Go.Joins Go.Deep
open GoRep (rep bulk)

theorem b_i_Joined (l : List ByteArray) (b : ByteArray) (hpre : joPre l b) : BCalls Tryz.prog 73 [.c (.hs .no tyStr l), .c (.str b)] (.c (.str (joS l b))) [] := by
  refine bc0 [e_strings_Join] [] [] [] L0 Tryz.func73 (fun hwf => ?_)
  refine Eq.mpr (β := (True ∧ (True ∧ (True ∧ ((joPre l b ∧ true = true) ∧ (True ∧ (rS (joS l b) (joS l b)))))))) (by kernel_rfl) ?_
  simp only [btw_iff, btw_not, flagsOk, Bool.not_true, Bool.not_false, SI2A, eq_self]
  repeat' (with_reducible first | exact trivial | apply And.intro | intro _)
  all_goals first
    | (with_reducible trivial)
    | omega
    | (with_reducible assumption)
def e_i_Joined : Entry Tryz.prog := ⟨73, [.v (.list tyStr), .v tyStr], fun x => joPre x.1 x.2.1, fun x => .c (.str (joS x.1 x.2.1)), fun _ => [], fun x hx => b_i_Joined x.1 x.2.1 hx, Tryz.call73⟩
theorem b_i_flagWords  : BCalls Tryz.prog 75 [] (.c (.row 0 0)) [.row tyStr flagW 0 0 none] := by
  refine bc0 [] [] [] [] L0 Tryz.func75 (fun hwf => ?_)
  refine Eq.mpr (β := (True ∧ (True ∧ (True ∧ ((([(⟨#[115, 101, 101, 110]⟩ : ByteArray), (⟨#[97, 110, 115, 119, 101, 114, 101, 100]⟩ : ByteArray), (⟨#[102, 108, 97, 103, 103, 101, 100]⟩ : ByteArray), (⟨#[100, 101, 108, 101, 116, 101, 100]⟩ : ByteArray), (⟨#[100, 114, 97, 102, 116]⟩ : ByteArray)]) = flagW) ∧ true = true))))) (by kernel_rfl) ?_
  simp only [btw_iff, btw_not, flagsOk, Bool.not_true, Bool.not_false, SI2A, eq_self]
  repeat' (with_reducible first | exact trivial | apply And.intro | intro _)
  all_goals rfl
def e_i_flagWords : Entry Tryz.prog := ⟨75, [], fun x => True, fun x => .c (.row 0 0), fun x => [.row tyStr flagW 0 0 none], fun x hx => b_i_flagWords , Tryz.call75⟩
def L_i_namesOf (ws : List ByteArray) (b : Int) : Nat → List AV → Mem → LoopA
  | 3, tm, M => ⟨Nat, fun y => (anyR (anyR (setA tm [(5, .c (.row 0 0)), (11, .c (.int .i64 ((y : Nat) : Int)))]) 6 3) 12 14, setM M [(0, .row tyStr (namesN ws b y) 0 0 none)]), fun y => (y ≤ List.length ws), fun y => (List.length ws - y)⟩
  | _, _, _ => ⟨Unit, fun _ => ([], []), fun _ => False, fun _ => 0⟩
theorem b_i_namesOf (ws : List ByteArray) (b : Int) (hpre : List.length ws ≤ 1048576) : BCalls Tryz.prog 74 [.c (.hs .no tyStr ws), .c (.int .i64 b)] (.c (.row 0 0)) [.row tyStr (namesN ws b (List.length ws)) 0 0 none] := by
  refine bc0 [] [] [] [] (L_i_namesOf ws b) Tryz.func74 (fun hwf => ?_)
  refine Eq.mpr (β := (T6 ((∃ q : Nat, (q ≤ List.length ws) ∧ ((lxs [.c (.hs .no tyStr ws), .c (.int .i64 b), .tp [], .tp [], .c (.raw (.slice none 0 0)), .c (.row 0 0)] (TN 3 (lxs [.c (.hs .no tyStr ws), .c (.int .i64 ((List.length ws : Nat) : Int))] (leV (.c (.int .i64 0)) (.c (.int .i64 ((q : Nat) : Int))) ∧ TN 14 (lxs [.tp []] True))))) ∧ (leB (.row tyStr ([] : List ByteArray) 0 0 none) (.row tyStr (namesN ws b q) 0 0 none) ∧ True) ∧ true = true)) ∧ ∀ y0 : Nat, (y0 ≤ List.length ws) → (True ∧ (bif (ltI ((y0 : Nat) : Int) ((List.length ws : Nat) : Int)) then (True ∧ (((1 : Nat) = 1 ∧ (0 : Int) ≤ ((y0 : Nat) : Int) ∧ (((y0 : Nat) : Int) : Int) < ((List.length ws : Nat) : Int)) ∧ (T5 ((0 : Int) ≤ ((y0 : Nat) : Int) ∧ (T2 (bif (eqI (IntKind.wrap .i64 (((BitVec.ofInt (IntKind.bits .i64) (shrI .i64 b ((y0 : Nat) : Int)) &&& BitVec.ofInt (IntKind.bits .i64) 1).toNat : Nat))) 1) then (T3 ((True ∧ List.length (namesN ws b y0) + List.length ([(nth_String ws (Int.toNat ((y0 : Nat) : Int)))]) ≤ rowMax) ∧ (T3 (∃ y0' : Nat, (y0' ≤ List.length ws) ∧ (List.length ws - y0') < (List.length ws - y0) ∧ ((lxs [.c (.hs .no tyStr ws), .c (.int .i64 b), .tp [], .tp [], .c (.raw (.slice none 0 0)), .c (.row 0 0)] (TN 3 (lxs [.c (.hs .no tyStr ws), .c (.int .i64 ((List.length ws : Nat) : Int))] (leV (.c (.int .i64 (IntKind.wrap .i64 (((y0 : Nat) : Int) + 1)))) (.c (.int .i64 ((y0' : Nat) : Int))) ∧ TN 14 (lxs [.tp []] True))))) ∧ (leB (.row tyStr ((namesN ws b y0) ++ [(nth_String ws (Int.toNat ((y0 : Nat) : Int)))]) 0 0 none) (.row tyStr (namesN ws b y0') 0 0 none) ∧ True) ∧ true = true))))) else (T2 (∃ y0' : Nat, (y0' ≤ List.length ws) ∧ (List.length ws - y0') < (List.length ws - y0) ∧ ((lxs [.c (.hs .no tyStr ws), .c (.int .i64 b), .tp [], .tp [], .c (.raw (.slice none 0 0)), .c (.row 0 0)] (TN 3 (lxs [.c (.hs .no tyStr ws), .c (.int .i64 ((List.length ws : Nat) : Int))] (leV (.c (.int .i64 (IntKind.wrap .i64 (((y0 : Nat) : Int) + 1)))) (.c (.int .i64 ((y0' : Nat) : Int))) ∧ TN 14 (lxs [.tp []] True))))) ∧ (leB (.row tyStr (namesN ws b y0) 0 0 none) (.row tyStr (namesN ws b y0') 0 0 none) ∧ True) ∧ true = true))))))))) else (T2 (((namesN ws b y0) = (namesN ws b (List.length ws))) ∧ true = true))))))) (by kernel_rfl) ?_
  unfold T2 T3 T5 T6
  simp only [leB_rowU8, btw_iff, btw_not, flagsOk, Bool.not_true, Bool.not_false, SI2A, eq_self]
  refine ⟨⟨0, Nat.zero_le _, rfl, rfl⟩, fun y hy => ?_⟩
  have hl := names_len ws b y
  repeat' (with_reducible first | exact trivial | apply And.intro | intro _)
  all_goals first
    | (with_reducible trivial)
    | omega
    | (with_reducible assumption)
    | ((try simp only [List.length_append, List.length_cons, List.length_nil, byteL_len]); (first | unfold rowMax | unfold maxLen); omega)
    | exact ⟨y + 1, by omega, by omega, wrapN (by unfold maxLen; omega), (names_y (eqI_true.2 (by assumption))).symm⟩
    | exact ⟨y + 1, by omega, by omega, wrapN (by unfold maxLen; omega), (names_n (eqI_false.2 (by assumption))).symm⟩
    | (obtain rfl : y = List.length ws := by omega
       rfl)
def e_i_namesOf : Entry Tryz.prog := ⟨74, [.v (.list tyStr), .v tyInt], fun x => List.length x.1 ≤ 1048576, fun x => .c (.row 0 0), fun x => [.row tyStr (namesN x.1 x.2.1 (List.length x.1)) 0 0 none], fun x hx => b_i_namesOf x.1 x.2.1 hx, Tryz.call74⟩
theorem b_i_FlagsText (b : Int) : BCalls Tryz.prog 57 [.c (.int .i64 b)] (.c (.str (flagT b))) [] := by
  refine bc0 [e_i_FlagsOk, e_i_flagWords, e_i_namesOf, e_i_Joined] [] [] [] L0 Tryz.func57 (fun hwf => ?_)
  refine Eq.mpr (β := (True ∧ (True ∧ ((True ∧ true = true) ∧ (True ∧ (bif (!(flagsOk b)) then (True ∧ (rS (⟨#[]⟩ : ByteArray) (flagT b))) else ((True ∧ true = true) ∧ (True ∧ ((List.length flagW ≤ 1048576 ∧ true = true ∧ true = true) ∧ ((joPre (namesN flagW b (List.length flagW)) (⟨#[32]⟩ : ByteArray) ∧ true = true ∧ true = true) ∧ (True ∧ (rS (joS (namesN flagW b (List.length flagW)) (⟨#[32]⟩ : ByteArray)) (flagT b))))))))))))) (by kernel_rfl) ?_
  simp only [leB_rowU8, Bool.not_true, Bool.not_false, SI2A, eq_self]
  repeat' (with_reducible first | exact trivial | apply And.intro | intro _)
  all_goals first
    | (with_reducible trivial)
    | omega
    | (with_reducible assumption)
    | (show 5 ≤ 1048576; decide)
    | exact namesPre (b := b) (k := 5) (by omega)
    | exact flag_no (k := 0) (.inl rfl) (by assumption)
    | (rename_i h; unfold flagT; rw [if_pos h]; rfl)
def e_i_FlagsText : Entry Tryz.prog := ⟨57, [.v tyInt], fun x => True, fun x => .c (.str (flagT x.1)), fun _ => [], fun x hx => b_i_FlagsText x.1, Tryz.call57⟩
end Go.Proofs.YtoigkpkafgjeaaaGreatDoor
set_option linter.unusedSimpArgs false
set_option linter.unusedVariables false
set_option maxRecDepth 100000
set_option maxHeartbeats 4000000
namespace Go.Proofs.YtoigkpkafgjeaaaGreatDoor
open Go.ChangeShapes Go.WideShapes Go.ChangeAt Go.RowKit Go.Joins Go.Deep
open GoRep (rep bulk)

def hexI (x : Int) : Int := if x < 10 then x + 48 else x + 87
def hexP (x : Int) : Prop := 0 ≤ x ∧ x < 16
def hexN (s : ByteArray) : Nat → List Int
  | 0 => []
  | k + 1 => hexN s k ++ [hexI (Int.tdiv (byteAt s k) 16), hexI (Int.tmod (byteAt s k) 16)]
def hexS (s : ByteArray) : ByteArray := bytesOf (hexN s s.size)
theorem hex_q (s : ByteArray) (i : Nat) : hexP (Int.tdiv (byteAt s i) 16) ∧ hexP (Int.tmod (byteAt s i) 16) := by
  have h := byteAt_b s i
  rw [Int.tdiv_eq_ediv_of_nonneg h.1, Int.tmod_eq_emod_of_nonneg h.1]
  unfold hexP
  omega
theorem hexN_len (s : ByteArray) : ∀ k, (hexN s k).length = 2 * k
  | 0 => rfl
  | k + 1 => by
    have := hexN_len s k
    unfold hexN
    rw [List.length_append, this]
    simp only [List.length_cons, List.length_nil]
    omega
theorem b_s_l1Hex (x : Int) (hpre : hexP x) : BCalls Tryz.prog 67 [.c (.int .u8 x)] (.c (.int .u8 (hexI x))) [] := by
  refine bc0 [] [] [] [] L0 Tryz.func67 (fun hwf => ?_)
  refine Eq.mpr (β := (True ∧ (True ∧ (True ∧ (bif (ltI x 10) then (True ∧ (True ∧ (True ∧ ((true = true ∧ leC (.int .u8 (IntKind.wrap .u8 (x + 48))) (.int .u8 (hexI x))) ∧ true = true)))) else (True ∧ (True ∧ (True ∧ (True ∧ ((true = true ∧ leC (.int .u8 (IntKind.wrap .u8 ((IntKind.wrap .u8 (x - 10)) + 97))) (.int .u8 (hexI x))) ∧ true = true)))))))))) (by kernel_rfl) ?_
  obtain ⟨p0, p1⟩ : 0 ≤ x ∧ x < 16 := hpre
  simp only [btw_iff, btw_not, flagsOk, Bool.not_true, Bool.not_false, SI2A, eq_self]
  repeat' (with_reducible first | exact trivial | apply And.intro | intro _)
  all_goals first
    | (with_reducible trivial)
    | omega
    | (with_reducible assumption)
    | (rename_i h; rw [w8 (by omega) (by omega)]; exact (if_pos h).symm)
    | (rename_i h; rw [w8 (x := x - 10) (by omega) (by omega), w8 (by omega) (by omega)]; unfold hexI; rw [if_neg h]; omega)
def e_s_l1Hex : Entry Tryz.prog := ⟨67, [.v (.int .u8)], fun x => hexP x.1, fun x => .c (.int .u8 (hexI x.1)), fun _ => [], fun x hx => b_s_l1Hex x.1 hx, Tryz.call67⟩
def L_s_Hex (s : ByteArray) : Nat → List AV → Mem → LoopA
  | 3, tm, M => ⟨Nat, fun y => (anyR (setA tm [(3, .c (.row 0 0)), (4, .c (.int .i64 ((y : Nat) : Int)))]) 5 20, setM M [(0, .row (.int .u8) (hexN s y) 0 0 none)]), fun y => (y ≤ ByteArray.size s), fun y => (ByteArray.size s - y)⟩
  | _, _, _ => ⟨Unit, fun _ => ([], []), fun _ => False, fun _ => 0⟩
theorem b_s_Hex (s : ByteArray) (hpre : ByteArray.size s ≤ 1048576) : BCalls Tryz.prog 40 [.c (.str s)] (.c (.str (hexS s))) [] := by
  refine bc0 [e_s_l1Hex] [] [] [] (L_s_Hex s) Tryz.func40 (fun hwf => ?_)
  refine Eq.mpr (β := (T4 ((∃ q : Nat, (q ≤ ByteArray.size s) ∧ ((lxs [.c (.str s), .tp [], .c (.str (⟨#[]⟩ : ByteArray)), .c (.row 0 0)] (leV (.c (.int .i64 0)) (.c (.int .i64 ((q : Nat) : Int))) ∧ TN 20 (lxs [.tp [], .tp []] True))) ∧ (leB (.row (.int .u8) ([] : List Int) 0 0 none) (.row (.int .u8) (hexN s q) 0 0 none) ∧ True) ∧ true = true)) ∧ ∀ y0 : Nat, (y0 ≤ ByteArray.size s) → (T4 (bif (ltI ((y0 : Nat) : Int) ((ByteArray.size s : Nat) : Int)) then ((true = true ∧ true = true) ∧ (T3 (((0 : Int) ≤ ((y0 : Nat) : Int) ∧ (((y0 : Nat) : Int) : Int) < ((ByteArray.size s : Nat) : Int)) ∧ ((16 : Int) ≠ 0 ∧ (T2 (((0 : Int) ≤ ((y0 : Nat) : Int) ∧ (((y0 : Nat) : Int) : Int) < ((ByteArray.size s : Nat) : Int)) ∧ ((16 : Int) ≠ 0 ∧ ((hexP (IntKind.wrap .u8 (Int.tdiv (byteAt s (Int.toNat ((y0 : Nat) : Int))) 16)) ∧ true = true) ∧ ((hexP (Int.tmod (byteAt s (Int.toNat ((y0 : Nat) : Int))) 16) ∧ true = true) ∧ (True ∧ ((True ∧ List.length (hexN s y0) + List.length ([hexI (IntKind.wrap .u8 (Int.tdiv (byteAt s (Int.toNat ((y0 : Nat) : Int))) 16)), hexI (Int.tmod (byteAt s (Int.toNat ((y0 : Nat) : Int))) 16)] : List Int) ≤ rowMax) ∧ (T4 (∃ y0' : Nat, (y0' ≤ ByteArray.size s) ∧ (ByteArray.size s - y0') < (ByteArray.size s - y0) ∧ ((lxs [.c (.str s), .tp [], .c (.str (⟨#[]⟩ : ByteArray)), .c (.row 0 0)] (leV (.c (.int .i64 (IntKind.wrap .i64 (((y0 : Nat) : Int) + 1)))) (.c (.int .i64 ((y0' : Nat) : Int))) ∧ TN 20 (lxs [.tp [], .tp []] True))) ∧ (leB (.row (.int .u8) ((hexN s y0) ++ ([hexI (IntKind.wrap .u8 (Int.tdiv (byteAt s (Int.toNat ((y0 : Nat) : Int))) 16)), hexI (Int.tmod (byteAt s (Int.toNat ((y0 : Nat) : Int))) 16)] : List Int)) 0 0 none) (.row (.int .u8) (hexN s y0') 0 0 none) ∧ True) ∧ true = true)))))))))))))) else (True ∧ (List.length (hexN s y0) ≤ maxLen ∧ (True ∧ (rS (bytesOf (hexN s y0)) (hexS s)))))))))) (by kernel_rfl) ?_
  unfold T2 T3 T4
  have hp : ByteArray.size s ≤ 1048576 := hpre
  have hw : ∀ i, IntKind.wrap .u8 (Int.tdiv (byteAt s i) 16) = Int.tdiv (byteAt s i) 16 := fun i => by
    have h : 0 ≤ Int.tdiv (byteAt s i) 16 ∧ Int.tdiv (byteAt s i) 16 < 16 := (hex_q s i).1
    exact w8 h.1 (by omega)
  simp only [hw]
  simp only [btw_iff, btw_not, flagsOk, Bool.not_true, Bool.not_false, SI2A, eq_self]
  repeat' (with_reducible first | exact trivial | apply And.intro | intro _)
  all_goals first
    | (with_reducible trivial)
    | omega
    | (with_reducible assumption)
    | exact Int.natCast_nonneg _
    | exact ⟨0, Nat.zero_le _, rfl, Eq.mpr (leB_row (t := .int .u8)) rfl⟩
    | exact (hex_q s _).1
    | exact (hex_q s _).2
    | (rw [hexN_len]; show _ + 2 ≤ rowMax; unfold rowMax; omega)
    | (rw [hexN_len]; unfold maxLen; omega)
    | (rename_i y hy hlt; exact ⟨y + 1, by omega, by omega, wrapN (by unfold maxLen; omega), Eq.mpr (leB_row (t := .int .u8)) rfl⟩)
    | (rename_i y hy hge; obtain rfl : y = s.size := by omega
       rfl)
def e_s_Hex : Entry Tryz.prog := ⟨40, [.v tyStr], fun x => ByteArray.size x.1 ≤ 1048576, fun x => .c (.str (hexS x.1)), fun _ => [], fun x hx => b_s_Hex x.1 hx, Tryz.call40⟩
end Go.Proofs.YtoigkpkafgjeaaaGreatDoor
set_option linter.unusedSimpArgs false
set_option linter.unusedVariables false
set_option maxRecDepth 100000
namespace Go.Proofs.YtoigkpkafgjeaaaGreatDoor
open Go.ChangeShapes Go.WideShapes Go.ChangeAt Go.RowKit Go.Joins Go.Deep
open GoRep (rep)
def ren_hex_39 : Go.Shelf.Ren := ⟨fun | 39 => 87 | 41 => 102 | 40 => 103 | n => n,
  fun | 30 => 22 | 9 => 9 | 3 => 3 | 0 => 0 | 5 => 5 | 46 => 73 | n => n,
  fun  | n => n⟩
open Go.Shelf in
theorem lay_hex_39 : Lays.ph39 Tryz.prog ren_hex_39 where
  mixed := by kernel_rfl
  f39 := Tryz.func87.trans (congrArg some (by kernel_rfl))
  f40 := Tryz.func103.trans (congrArg some (by kernel_rfl))
  f41 := Tryz.func102.trans (congrArg some (by kernel_rfl))
  t0 := Tryz.underlying0
  a0 := Tryz.isAgg0
  z0 := Tryz.sizeOf0
  v0 := Tryz.zeroValue0
  t3 := Tryz.underlying3
  a3 := Tryz.isAgg3
  z3 := Tryz.sizeOf3
  v3 := Tryz.zeroValue3
  t5 := Tryz.underlying5
  a5 := Tryz.isAgg5
  z5 := Tryz.sizeOf5
  v5 := Tryz.zeroValue5
  t9 := Tryz.underlying9
  a9 := Tryz.isAgg9
  z9 := Tryz.sizeOf9
  v9 := Tryz.zeroValue9
  t30 := Tryz.underlying22
  a30 := Tryz.isAgg22
  z30 := Tryz.sizeOf22
  v30 := Tryz.zeroValue22
  t46 := Tryz.underlying73
  a46 := Tryz.isAgg73
  z46 := Tryz.sizeOf73
  v46 := Tryz.zeroValue73
  info5 := by kernel_rfl
theorem hexD : ∀ d : Nat, d < 16 → UInt8.ofNat (hexI ((d : Nat) : Int)).toNat = Lib.Hx.digit d := by decide
theorem enc_snoc (l : List UInt8) (b : UInt8) : Lib.Hx.encode (l ++ [b]) = Lib.Hx.encode l ++ [Lib.Hx.digit (b.toNat / 16), Lib.Hx.digit (b.toNat % 16)] := by
  unfold Lib.Hx.encode
  rw [List.flatMap_append]
  simp
theorem hexN_enc (s : ByteArray) : ∀ k, k ≤ s.data.toList.length → (hexN s k).map (fun n => UInt8.ofNat n.toNat) = Lib.Hx.encode (s.data.toList.take k)
  | 0, _ => rfl
  | k + 1, h => by
    have ih := hexN_enc s k (by omega)
    obtain ⟨b, hb⟩ : ∃ b, s.data.toList[k]? = some b := ⟨_, List.getElem?_eq_getElem (by omega)⟩
    have e : byteAt s k = ((b.toNat : Nat) : Int) := by unfold byteAt; rw [List.getD_eq_getElem?_getD, hb]; rfl
    have hl := b.toNat_lt
    have e1 : Int.tdiv ((b.toNat : Nat) : Int) 16 = ((b.toNat / 16 : Nat) : Int) := rfl
    have e2 : Int.tmod ((b.toNat : Nat) : Int) 16 = ((b.toNat % 16 : Nat) : Int) := rfl
    rw [List.take_add_one, hb]
    show _ = Lib.Hx.encode (_ ++ [b])
    rw [enc_snoc]
    unfold hexN
    rw [List.map_append, ih, e, e1, e2, List.map_cons, List.map_cons, List.map_nil, hexD _ (by omega), hexD _ (by omega)]
theorem hexS_enc (s : ByteArray) : hexS s = ⟨(Lib.Hx.encode s.data.toList).toArray⟩ := by
  have h := hexN_enc s s.size (Nat.le_of_eq Array.length_toList.symm)
  unfold hexS bytesOf
  rw [h, List.take_of_length_le (show s.data.toList.length ≤ s.size from Nat.le_of_eq Array.length_toList)]
theorem hexS_size (s : ByteArray) : (hexS s).size = 2 * s.size := by
  unfold hexS
  rw [bytesOf_size, hexN_len]
set_option maxHeartbeats 4000000 in
theorem hex_walk (s : ByteArray) (w : World) (hs : s.size ≤ 1048576) : Calls Tryz.prog 76 #[.string s] w (fun e w' => e = .returned (.string (hexS s)) ∧ Below w.heap.size w w') := by
  have hcv : ∀ W : World, (convert 9 22 (.string s)).run Tryz.prog W = .ok (.slice (some ⟨W.heap.size, 0, none⟩) s.size (grownCap W s.size 0 5)) (W.drew.alloc (.cells (bytesRow s (grownCap W s.size 0 5)) 5 ((bytesRow s (grownCap W s.size 0 5)).size, (bytesRow s (grownCap W s.size 0 5)).size + 1))) :=
    fun W => run_bytes_of_string W _ _ _ s Tryz.underlying9 Tryz.underlying22 Tryz.underlying5
  go_enter Tryz.func76, Tryz.ntmps76
  go_wp2_with fail
  clear hcv
  obtain ⟨cap, hcap⟩ : ∃ cap, grownCap w s.size 0 5 = cap := ⟨_, rfl⟩
  simp only [hcap]
  have hl : s.data.toList.length = s.size := Array.length_toList
  obtain ⟨C, hC⟩ : ∃ C : Obj, C = .cells (bytesRow s cap) 5 ((bytesRow s cap).size, (bytesRow s cap).size + 1) := ⟨_, rfl⟩
  obtain ⟨W1, hW1⟩ : ∃ W1, W1 = (w.alloc C).drew := ⟨_, rfl⟩
  have g0 : W1.heap[w.heap.size]? = some C := by
    rw [hW1]
    show (w.heap.push C)[w.heap.size]? = _
    rw [Array.getElem?_push, if_pos rfl]
  have hb1 : Below w.heap.size w W1 := by
    rw [hW1]
    exact ((Below.refl w.heap.size w).alloc (Nat.le_refl _) C).trans ⟨rfl, rfl, rfl, Nat.le_refl _, fun _ _ => rfl⟩
  rw [← hC, ← hW1]
  rw [show s.size = s.data.toList.length from hl.symm]
  refine (Any.hex_EncodeToString_bytes lay_hex_39 w.heap.size 0 cap s.data.toList W1 (fun i hi => ?_) ?_ (by omega)).mono fun e W' he => ?_
  · have hi' : i < s.data.size := by rwa [Array.length_toList] at hi
    show W1.cell? ⟨w.heap.size, 0 + i, none⟩ = _
    unfold World.cell?
    rw [g0, hC, Nat.zero_add]
    show (bytesRow s cap)[i]? = _
    rw [bytesRow_at s cap i hi']
    simp
  · exact (Array.getElem?_eq_some_iff.1 g0).1
  · obtain ⟨rfl, hb⟩ := he
    have hz := hb1.trans (hb.mono (hb1.size))
    rw [← hexS_enc]
    go_wp2_with fail
    refine ⟨rfl, .string (hexS s), ?_, And.intro rfl hz⟩
    exact (by simp [results, Tryz.results76, go_sem])
theorem b_i_Hex (s : ByteArray) (hpre : s.size ≤ 1048576) : BCalls Tryz.prog 76 [.c (.str s)] (.c (.str (hexS s))) [] := by
  intro X W vs hX hgl hr
  obtain ⟨v, r, rfl, ⟨rfl, hw⟩, hn⟩ := hr
  obtain rfl : r = [] := hn
  refine (hex_walk s W hpre).mono fun e W' he => ?_
  obtain ⟨rfl, hb⟩ := he
  exact ⟨_, [], rfl, Grow.of_below hb, nilM (fun b hb' => Nat.lt_of_lt_of_le (hX b hb') hb.size), rfl, by rw [hexS_size]; unfold maxLen; omega⟩
def e_i_Hex : Entry Tryz.prog := ⟨76, [.v tyStr], fun x => ByteArray.size x.1 ≤ 1048576, fun x => .c (.str (hexS x.1)), fun _ => [], fun x hx => b_i_Hex x.1 hx, Tryz.call76⟩
end Go.Proofs.YtoigkpkafgjeaaaGreatDoor
