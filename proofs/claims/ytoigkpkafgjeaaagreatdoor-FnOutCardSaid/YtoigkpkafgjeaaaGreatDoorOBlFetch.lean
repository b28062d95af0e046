/-
  Several texts in one.
-/
import Derived.Test.YtoigkpkafgjeaaaGreatDoorOBlLib
import Derived.Test.YtoigkpkafgjeaaaGreatDoorOLawA
set_option linter.unusedSimpArgs false
set_option linter.unusedVariables false
set_option maxRecDepth 100000
set_option maxHeartbeats 4000000
namespace Go.Proofs.YtoigkpkafgjeaaaGreatDoor
open Go.ChangeShapes Go.WideShapes Go.ChangeAt Go.RowKit Go.Joins Go.Deep
open GoRep (rep bulk)

def boxIx (l : List GBox) (n : ByteArray) : Int := idxL (fun z0 : GBox => eqS z0.1 n) l
def L_s_BoxNamed (list : List GBox) (name : ByteArray) : Nat → List AV → Mem → LoopA
  | 2, tm, M => ⟨Nat, fun y => (anyR (setA tm [(4, .any), (5, .c (.int .i64 ((y : Nat) : Int)))]) 6 14, M), fun y => (y ≤ List.length list ∧ ∀ j, j < y → eqS (nth_Box list j).1 name = false), fun y => (List.length list - y)⟩
  | _, _, _ => ⟨Unit, fun _ => ([], []), fun _ => False, fun _ => 0⟩
theorem b_s_BoxNamed (list : List GBox) (name : ByteArray) : BCalls Tryz.prog 110 [.c (.hs .no tyBox list), .c (.str name)] (.c (.int .i64 (boxIx list name))) [] := by
  refine bc0 [] [] [] [] (L_s_BoxNamed list name) Tryz.func110 (fun hwf => ?_)
  refine Eq.mpr (β := (T2 ((∃ q : Nat, (q ≤ List.length list ∧ ∀ j, j < q → eqS (nth_Box list j).1 name = false) ∧ ((lxs [.c (.hs .no tyBox list), .c (.str name), .tp [], .tp []] (True ∧ leV (.c (.int .i64 0)) (.c (.int .i64 ((q : Nat) : Int))) ∧ TN 14 True)) ∧ (True) ∧ true = true)) ∧ ∀ y0 : Nat, (y0 ≤ List.length list ∧ ∀ j, j < y0 → eqS (nth_Box list j).1 name = false) → (T4 (bif (ltI ((y0 : Nat) : Int) ((List.length list : Nat) : Int)) then (T2 (((4 : Nat) = 4 ∧ (0 : Int) ≤ ((y0 : Nat) : Int) ∧ (((y0 : Nat) : Int) : Int) < ((List.length list : Nat) : Int)) ∧ (T4 (bif (eqS (nth_Box list (Int.toNat ((y0 : Nat) : Int))).1 name) then (T2 (rI ((y0 : Nat) : Int) (boxIx list name))) else (T3 (∃ y0' : Nat, (y0' ≤ List.length list ∧ ∀ j, j < y0' → eqS (nth_Box list j).1 name = false) ∧ (List.length list - y0') < (List.length list - y0) ∧ ((lxs [.c (.hs .no tyBox list), .c (.str name), .tp [], .tp []] (True ∧ leV (.c (.int .i64 (IntKind.wrap .i64 (((y0 : Nat) : Int) + 1)))) (.c (.int .i64 ((y0' : Nat) : Int))) ∧ TN 14 True)) ∧ (True) ∧ true = true))))))) else (True ∧ (rI (-1) (boxIx list name)))))))) (by kernel_rfl) ?_
  unfold T2 T3 T4
  simp only [SIA, eq_self]
  have hm : list.length ≤ maxLen := hwf.1.1
  refine ⟨⟨0, ⟨Nat.zero_le _, allN_zero⟩, rfl⟩, fun k hk => ⟨fun hlt => ⟨by omega, fun hp => ?_, fun hp => ?_⟩, fun hge => ?_⟩⟩
  · have hk' : k < list.length := by omega
    exact (idxL_nth (t := tyBox) (p := fun z0 : GBox => eqS z0.1 name) (xs := list) hk' (fun j hj => eqS_false.2 (hk.2 j hj)) (eqS_true.2 hp)).symm
  · exact ⟨k + 1, ⟨by omega, allN_step hk.2 hp⟩, by omega, wrapN (by omega)⟩
  · obtain rfl : k = list.length := by omega
    exact (idxL_nth_none (t := tyBox) (p := fun z0 : GBox => eqS z0.1 name) (fun j hj => eqS_false.2 (hk.2 j hj))).symm
def e_s_BoxNamed : Entry Tryz.prog := ⟨110, [.v (.list tyBox), .v tyStr], fun x => True, fun x => .c (.int .i64 (boxIx x.1 x.2.1)), fun _ => [], fun x hx => b_s_BoxNamed x.1 x.2.1, Tryz.call110⟩
end Go.Proofs.YtoigkpkafgjeaaaGreatDoor
set_option linter.unusedSimpArgs false
set_option linter.unusedVariables false
set_option maxRecDepth 100000
set_option maxHeartbeats 4000000
namespace Go.Proofs.YtoigkpkafgjeaaaGreatDoor
open Go.ChangeShapes Go.WideShapes Go.ChangeAt Go.RowKit Go.Joins Go.Deep
open GoRep (rep bulk)

def seqOf (v : List GSpan) (u : Int) : Int := idxL (fun z0 : GSpan => eqI z0.1 u) v + 1
def boxW (l : List GBox) (u : Int) : Int := idxL (fun z0 : GBox => eqI z0.2.1 u) l
def placeO (l : List GMsg) (u : Int) : Int := idxL (fun z0 : GMsg => eqI z0.1 u) l
theorem seqOf_b (v : List GSpan) (u : Int) : 0 ≤ seqOf v u ∧ seqOf v u ≤ (List.length v : Nat) := by
  have : -1 ≤ idxL (fun z0 : GSpan => eqI z0.1 u) v ∧ idxL (fun z0 : GSpan => eqI z0.1 u) v < (List.length v : Nat) := idxL_lt v
  unfold seqOf
  omega
def L_s_SeqIn (v : List GSpan) (uid : Int) : Nat → List AV → Mem → LoopA
  | 2, tm, M => ⟨Nat, fun y => (anyR (setA tm [(4, .any), (5, .c (.int .i64 ((y : Nat) : Int)))]) 6 17, M), fun y => (y ≤ List.length v ∧ ∀ j, j < y → eqI (nth_Span v j).1 uid = false), fun y => (List.length v - y)⟩
  | _, _, _ => ⟨Unit, fun _ => ([], []), fun _ => False, fun _ => 0⟩
theorem b_s_SeqIn (v : List GSpan) (uid : Int) : BCalls Tryz.prog 96 [.ag [.hs .no tySpan v], .c (.int .i64 uid)] (.c (.int .i64 (seqOf v uid))) [] := by
  refine bc0 [] [] [] [] (L_s_SeqIn v uid) Tryz.func96 (fun hwf => ?_)
  refine Eq.mpr (β := (T3 ((∃ q : Nat, (q ≤ List.length v ∧ ∀ j, j < q → eqI (nth_Span v j).1 uid = false) ∧ ((lxs [.ag [.hs .no tySpan v], .c (.int .i64 uid), .c (.bp 0 0), .tp []] (True ∧ leV (.c (.int .i64 0)) (.c (.int .i64 ((q : Nat) : Int))) ∧ TN 17 True)) ∧ (lb (.box [.hs .no tySpan v]) ∧ True) ∧ true = true)) ∧ ∀ y0 : Nat, (y0 ≤ List.length v ∧ ∀ j, j < y0 → eqI (nth_Span v j).1 uid = false) → (T5 (bif (ltI ((y0 : Nat) : Int) ((List.length v : Nat) : Int)) then (T3 (((2 : Nat) = 2 ∧ (0 : Int) ≤ ((y0 : Nat) : Int) ∧ (((y0 : Nat) : Int) : Int) < ((List.length v : Nat) : Int)) ∧ (T4 (bif (eqI (nth_Span v (Int.toNat ((y0 : Nat) : Int))).1 uid) then (T3 (rI (IntKind.wrap .i64 (((y0 : Nat) : Int) + 1)) (seqOf v uid))) else (T3 (∃ y0' : Nat, (y0' ≤ List.length v ∧ ∀ j, j < y0' → eqI (nth_Span v j).1 uid = false) ∧ (List.length v - y0') < (List.length v - y0) ∧ ((lxs [.ag [.hs .no tySpan v], .c (.int .i64 uid), .c (.bp 0 0), .tp []] (True ∧ leV (.c (.int .i64 (IntKind.wrap .i64 (((y0 : Nat) : Int) + 1)))) (.c (.int .i64 ((y0' : Nat) : Int))) ∧ TN 17 True)) ∧ (lb (.box [.hs .no tySpan v]) ∧ True) ∧ true = true))))))) else (True ∧ (rI 0 (seqOf v uid)))))))) (by kernel_rfl) ?_
  unfold T3 T4 T5
  simp only [SI2A, eq_self]
  have hm : List.length v ≤ maxLen := hwf.1.1.1
  refine ⟨⟨0, ⟨Nat.zero_le _, allN_zero⟩, rfl⟩, fun k hk => ⟨fun hlt => ⟨by omega, fun hp => ?_, fun hp => ?_⟩, fun hge => ?_⟩⟩
  · have hk' : k < List.length v := by omega
    have e := idxL_nth (t := tySpan) (p := (fun z0 : GSpan => eqI z0.1 uid)) (xs := v) hk' (fun j hj => eqI_false.2 (hk.2 j hj)) (eqI_true.2 hp)
    have e1 : idxL (fun z0 : GSpan => eqI z0.1 uid) v = (k : Nat) := e
    rw [seqOf, e1]
    exact wrapN (by unfold maxLen at *; omega)
  · exact ⟨k + 1, ⟨by omega, allN_step hk.2 hp⟩, by omega, wrapN (by omega)⟩
  · obtain rfl : k = List.length v := by omega
    have e := idxL_nth_none (t := tySpan) (p := (fun z0 : GSpan => eqI z0.1 uid)) (fun j hj => eqI_false.2 (hk.2 j hj))
    have e1 : idxL (fun z0 : GSpan => eqI z0.1 uid) v = -1 := e
    rw [seqOf, e1]
    rfl
def e_s_SeqIn : Entry Tryz.prog := ⟨96, [.s (.list tySpan), .v tyInt], fun x => True, fun x => .c (.int .i64 (seqOf x.1 x.2.1)), fun _ => [], fun x hx => b_s_SeqIn x.1 x.2.1, Tryz.call96⟩
def L_s_BoxWith (list : List GBox) (validity : Int) : Nat → List AV → Mem → LoopA
  | 2, tm, M => ⟨Nat, fun y => (anyR (setA tm [(4, .any), (5, .c (.int .i64 ((y : Nat) : Int)))]) 6 14, M), fun y => (y ≤ List.length list ∧ ∀ j, j < y → eqI (nth_Box list j).2.1 validity = false), fun y => (List.length list - y)⟩
  | _, _, _ => ⟨Unit, fun _ => ([], []), fun _ => False, fun _ => 0⟩
theorem b_s_BoxWith (list : List GBox) (validity : Int) : BCalls Tryz.prog 92 [.c (.hs .no tyBox list), .c (.int .i64 validity)] (.c (.int .i64 (boxW list validity))) [] := by
  refine bc0 [] [] [] [] (L_s_BoxWith list validity) Tryz.func92 (fun hwf => ?_)
  refine Eq.mpr (β := (T2 ((∃ q : Nat, (q ≤ List.length list ∧ ∀ j, j < q → eqI (nth_Box list j).2.1 validity = false) ∧ ((lxs [.c (.hs .no tyBox list), .c (.int .i64 validity), .tp [], .tp []] (True ∧ leV (.c (.int .i64 0)) (.c (.int .i64 ((q : Nat) : Int))) ∧ TN 14 True)) ∧ (True) ∧ true = true)) ∧ ∀ y0 : Nat, (y0 ≤ List.length list ∧ ∀ j, j < y0 → eqI (nth_Box list j).2.1 validity = false) → (T4 (bif (ltI ((y0 : Nat) : Int) ((List.length list : Nat) : Int)) then (T2 (((4 : Nat) = 4 ∧ (0 : Int) ≤ ((y0 : Nat) : Int) ∧ (((y0 : Nat) : Int) : Int) < ((List.length list : Nat) : Int)) ∧ (T4 (bif (eqI (nth_Box list (Int.toNat ((y0 : Nat) : Int))).2.1 validity) then (T2 (rI ((y0 : Nat) : Int) (boxW list validity))) else (T3 (∃ y0' : Nat, (y0' ≤ List.length list ∧ ∀ j, j < y0' → eqI (nth_Box list j).2.1 validity = false) ∧ (List.length list - y0') < (List.length list - y0) ∧ ((lxs [.c (.hs .no tyBox list), .c (.int .i64 validity), .tp [], .tp []] (True ∧ leV (.c (.int .i64 (IntKind.wrap .i64 (((y0 : Nat) : Int) + 1)))) (.c (.int .i64 ((y0' : Nat) : Int))) ∧ TN 14 True)) ∧ (True) ∧ true = true))))))) else (True ∧ (rI (-1) (boxW list validity)))))))) (by kernel_rfl) ?_
  unfold T2 T3 T4
  simp only [SI2A, eq_self]
  have hm : List.length list ≤ maxLen := hwf.1.1
  refine ⟨⟨0, ⟨Nat.zero_le _, allN_zero⟩, rfl⟩, fun k hk => ⟨fun hlt => ⟨by omega, fun hp => ?_, fun hp => ?_⟩, fun hge => ?_⟩⟩
  · have hk' : k < List.length list := by omega
    have e := idxL_nth (t := tyBox) (p := (fun z0 : GBox => eqI z0.2.1 validity)) (xs := list) hk' (fun j hj => eqI_false.2 (hk.2 j hj)) (eqI_true.2 hp)
    exact e.symm
  · exact ⟨k + 1, ⟨by omega, allN_step hk.2 hp⟩, by omega, wrapN (by omega)⟩
  · obtain rfl : k = List.length list := by omega
    have e := idxL_nth_none (t := tyBox) (p := (fun z0 : GBox => eqI z0.2.1 validity)) (fun j hj => eqI_false.2 (hk.2 j hj))
    exact e.symm
def e_s_BoxWith : Entry Tryz.prog := ⟨92, [.v (.list tyBox), .v tyInt], fun x => True, fun x => .c (.int .i64 (boxW x.1 x.2.1)), fun _ => [], fun x hx => b_s_BoxWith x.1 x.2.1, Tryz.call92⟩
def L_s_PlaceOf (b : GBox) (uid : Int) : Nat → List AV → Mem → LoopA
  | 2, tm, M => ⟨Nat, fun y => (anyR (setA tm [(4, .any), (5, .c (.int .i64 ((y : Nat) : Int)))]) 6 16, M), fun y => (y ≤ List.length b.2.2.2 ∧ ∀ j, j < y → eqI (nth_Msg b.2.2.2 j).1 uid = false), fun y => (List.length b.2.2.2 - y)⟩
  | _, _, _ => ⟨Unit, fun _ => ([], []), fun _ => False, fun _ => 0⟩
def k080eri (b : GBox) : List AC := [.str b.1, .int .i64 b.2.1, .int .i64 b.2.2.1, .hs .no tyMsg b.2.2.2]
theorem b_s_PlaceOf (b : GBox) (uid : Int) : BCalls Tryz.prog 95 [.ag (cellsOf tyBox b), .c (.int .i64 uid)] (.c (.int .i64 (placeO b.2.2.2 uid))) [] := by
  refine bc0 [] [] [] [] (L_s_PlaceOf b uid) Tryz.func95 (fun hwf => ?_)
  refine Eq.mpr (β := (T3 ((∃ q : Nat, (q ≤ List.length b.2.2.2 ∧ ∀ j, j < q → eqI (nth_Msg b.2.2.2 j).1 uid = false) ∧ ((lxs [.ag (k080eri b), .c (.int .i64 uid), .c (.bp 0 0), .tp []] (True ∧ leV (.c (.int .i64 0)) (.c (.int .i64 ((q : Nat) : Int))) ∧ TN 16 True)) ∧ (lb (.box (k080eri b)) ∧ True) ∧ true = true)) ∧ ∀ y0 : Nat, (y0 ≤ List.length b.2.2.2 ∧ ∀ j, j < y0 → eqI (nth_Msg b.2.2.2 j).1 uid = false) → (T5 (bif (ltI ((y0 : Nat) : Int) ((List.length b.2.2.2 : Nat) : Int)) then (T3 (((3 : Nat) = 3 ∧ (0 : Int) ≤ ((y0 : Nat) : Int) ∧ (((y0 : Nat) : Int) : Int) < ((List.length b.2.2.2 : Nat) : Int)) ∧ (T4 (bif (eqI (nth_Msg b.2.2.2 (Int.toNat ((y0 : Nat) : Int))).1 uid) then (T2 (rI ((y0 : Nat) : Int) (placeO b.2.2.2 uid))) else (T3 (∃ y0' : Nat, (y0' ≤ List.length b.2.2.2 ∧ ∀ j, j < y0' → eqI (nth_Msg b.2.2.2 j).1 uid = false) ∧ (List.length b.2.2.2 - y0') < (List.length b.2.2.2 - y0) ∧ ((lxs [.ag (k080eri b), .c (.int .i64 uid), .c (.bp 0 0), .tp []] (True ∧ leV (.c (.int .i64 (IntKind.wrap .i64 (((y0 : Nat) : Int) + 1)))) (.c (.int .i64 ((y0' : Nat) : Int))) ∧ TN 16 True)) ∧ (lb (.box (k080eri b)) ∧ True) ∧ true = true))))))) else (True ∧ (rI (-1) (placeO b.2.2.2 uid)))))))) (by kernel_rfl) ?_
  unfold k080eri T2 T3 T4 T5
  simp only [SI2A, eq_self]
  have hm : List.length b.2.2.2 ≤ maxLen := hwf.1.2.2.2.1.1
  refine ⟨⟨0, ⟨Nat.zero_le _, allN_zero⟩, rfl⟩, fun k hk => ⟨fun hlt => ⟨by omega, fun hp => ?_, fun hp => ?_⟩, fun hge => ?_⟩⟩
  · have hk' : k < List.length b.2.2.2 := by omega
    have e := idxL_nth (t := tyMsg) (p := (fun z0 : GMsg => eqI z0.1 uid)) (xs := b.2.2.2) hk' (fun j hj => eqI_false.2 (hk.2 j hj)) (eqI_true.2 hp)
    exact e.symm
  · exact ⟨k + 1, ⟨by omega, allN_step hk.2 hp⟩, by omega, wrapN (by omega)⟩
  · obtain rfl : k = List.length b.2.2.2 := by omega
    have e := idxL_nth_none (t := tyMsg) (p := (fun z0 : GMsg => eqI z0.1 uid)) (fun j hj => eqI_false.2 (hk.2 j hj))
    exact e.symm
def e_s_PlaceOf : Entry Tryz.prog := ⟨95, [.s tyBox, .v tyInt], fun x => True, fun x => .c (.int .i64 (placeO x.1.2.2.2 x.2.1)), fun _ => [], fun x hx => b_s_PlaceOf x.1 x.2.1, Tryz.call95⟩
open GoMark (mrk cnt mrkI cntI)
end Go.Proofs.YtoigkpkafgjeaaaGreatDoor
