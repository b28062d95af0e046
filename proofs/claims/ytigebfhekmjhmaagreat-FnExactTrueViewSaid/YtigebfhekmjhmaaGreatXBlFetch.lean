/-
  Several texts in one.
-/
import Derived.Test.YtigebfhekmjhmaaGreatXBlLib
import Derived.Test.YtigebfhekmjhmaaGreatXLawA
set_option linter.unusedSimpArgs false
set_option linter.unusedVariables false
namespace Go.Proofs.YtigebfhekmjhmaaGreat
open Go.ChangeShapes Go.WideShapes Go.ChangeAt Go.RowKit Go.Joins Go.Deep
open GoRep (rep bulk)

def boxIx (l : List GBox) (n : ByteArray) : Int := idxL (fun z0 : GBox => eqS z0.1 n) l
set_option maxRecDepth 100000 in
set_option maxHeartbeats 400000 in
theorem b_i_BoxNamed_1 (b : GBox) (name : ByteArray) : BCalls Tryz.prog 305 [.ag (cellsOf tyBox b), .c (.ep .no tyStr ([name]) 0 0)] (.c (.bool (eqS b.1 name))) [] := by
  refine bcalls_of (T := ⟨[], [], [], [], none, fun _ => [], 0, [], []⟩) (L := L0) Tryz.func305 ⟨⟨rfl, rfl⟩, rfl⟩ (fun hwf => ?_)
  refine Eq.mpr (β := (True ∧ (True ∧ (True ∧ (True ∧ (True ∧ (True ∧ (True ∧ ((true = true ∧ leC (.bool (eqS b.1 name)) (.bool (eqS b.1 name))) ∧ true = true))))))))) (by kernel_rfl) ?_
  simp only [SIA, eq_self]
  repeat' (first | apply And.intro | intro _)
  all_goals (first
    | trivial
    | omega
    | (rw [Bool.eq_iff_iff]; simp_all [Prod.ext_iff, EQA]; done)
    | (simp_all [Prod.ext_iff, EQA]; done))
def e_i_BoxNamed_1 : Entry Tryz.prog := ⟨305, [.s tyBox, .p tyStr], fun x => True, fun x => .c (.bool (eqS x.1.1 x.2.1)), fun _ => [], fun x hx => b_i_BoxNamed_1 x.1 x.2.1, Tryz.call305⟩
set_option maxRecDepth 100000 in
set_option maxHeartbeats 400000 in
theorem b_i_BoxNamed (list : List GBox) (name : ByteArray) : BCalls Tryz.prog 296 [.c (.hs .no tyBox list), .c (.str name)] (.c (.int .i64 (boxIx list name))) [] := by
  refine bcalls_of (T := ⟨[e_i_BoxNamed_1], [e_slices_IndexFunc_i_Box_i_Box], [], [], none, fun _ => [], 0, [], []⟩) (L := L0) Tryz.func296 ⟨⟨rfl, rfl⟩, rfl⟩ (fun hwf => ?_)
  refine Eq.mpr (β := (True ∧ (True ∧ (True ∧ (True ∧ (((∀ z0 : GBox, True ∧ True) ∧ ∀ (_ : GBox → Bool) (_ : List GBox), true = true) ∧ (True ∧ ((true = true ∧ leC (.int .i64 (idxL (fun z0 : GBox => eqS z0.1 name) list)) (.int .i64 (boxIx list name))) ∧ true = true)))))))) (by kernel_rfl) ?_
  simp only [SIA, eq_self]
  exact ⟨⟨fun _ => trivial, fun _ _ => trivial⟩, rfl⟩
def e_i_BoxNamed : Entry Tryz.prog := ⟨296, [.v (.list tyBox), .v tyStr], fun x => True, fun x => .c (.int .i64 (boxIx x.1 x.2.1)), fun _ => [], fun x hx => b_i_BoxNamed x.1 x.2.1, Tryz.call296⟩
def L_s_BoxNamed (list : List GBox) (name : ByteArray) : Nat → List AV → Mem → LoopA
  | 2, tm, M => ⟨Nat, fun y => (setA tm [(4, .any), (5, .c (.int .i64 ((y : Nat) : Int))), (6, .any), (7, .any), (8, .any), (9, .any), (10, .any), (11, .any), (12, .any), (13, .any), (14, .any), (15, .any), (16, .any), (17, .any), (18, .any), (19, .any)], M), fun y => (y ≤ List.length list ∧ ∀ j, j < y → eqS (nth_Box list j).1 name = false), fun y => (List.length list - y)⟩
  | _, _, _ => ⟨Unit, fun _ => ([], []), fun _ => False, fun _ => 0⟩
set_option maxRecDepth 100000 in
set_option maxHeartbeats 400000 in
theorem b_s_BoxNamed (list : List GBox) (name : ByteArray) : BCalls Tryz.prog 293 [.c (.hs .no tyBox list), .c (.str name)] (.c (.int .i64 (boxIx list name))) [] := by
  refine bcalls_of (T := ⟨[], [], [], [], none, fun _ => [], 0, [], []⟩) (L := (L_s_BoxNamed list name)) Tryz.func293 ⟨⟨rfl, rfl⟩, rfl⟩ (fun hwf => ?_)
  refine Eq.mpr (β := (T2 ((∃ q : Nat, (q ≤ List.length list ∧ ∀ j, j < q → eqS (nth_Box list j).1 name = false) ∧ ((leV (.c (.hs .no tyBox list)) (.c (.hs .no tyBox list)) ∧ leV (.c (.str name)) (.c (.str name)) ∧ leV (.tp []) (.tp []) ∧ leV (.tp []) (.tp []) ∧ True ∧ leV (.c (.int .i64 0)) (.c (.int .i64 ((q : Nat) : Int))) ∧ True ∧ True ∧ True ∧ True ∧ True ∧ True ∧ True ∧ True ∧ True ∧ True ∧ True ∧ True ∧ True ∧ True ∧ True) ∧ (True) ∧ true = true)) ∧ ∀ y0 : Nat, (y0 ≤ List.length list ∧ ∀ j, j < y0 → eqS (nth_Box list j).1 name = false) → (T4 (bif (ltI ((y0 : Nat) : Int) ((List.length list : Nat) : Int)) then (T2 (((4 : Nat) = 4 ∧ (0 : Int) ≤ ((y0 : Nat) : Int) ∧ (((y0 : Nat) : Int) : Int) < ((List.length list : Nat) : Int)) ∧ (T4 (bif (eqS (nth_Box list (Int.toNat ((y0 : Nat) : Int))).1 name) then (T2 ((true = true ∧ leC (.int .i64 ((y0 : Nat) : Int)) (.int .i64 (boxIx list name))) ∧ true = true)) else (T3 (∃ y0' : Nat, (y0' ≤ List.length list ∧ ∀ j, j < y0' → eqS (nth_Box list j).1 name = false) ∧ (List.length list - y0') < (List.length list - y0) ∧ ((leV (.c (.hs .no tyBox list)) (.c (.hs .no tyBox list)) ∧ leV (.c (.str name)) (.c (.str name)) ∧ leV (.tp []) (.tp []) ∧ leV (.tp []) (.tp []) ∧ True ∧ leV (.c (.int .i64 (IntKind.wrap .i64 (((y0 : Nat) : Int) + 1)))) (.c (.int .i64 ((y0' : Nat) : Int))) ∧ True ∧ True ∧ True ∧ True ∧ True ∧ True ∧ True ∧ True ∧ True ∧ True ∧ True ∧ True ∧ True ∧ True ∧ True) ∧ (True) ∧ true = true))))))) else (True ∧ ((true = true ∧ leC (.int .i64 (-1)) (.int .i64 (boxIx list name))) ∧ true = true))))))) (by kernel_rfl) ?_
  unfold T2 T3 T4
  simp only [SIA, eq_self]
  have hm : list.length ≤ maxLen := hwf.1.1
  refine ⟨⟨0, ⟨Nat.zero_le _, allN_zero⟩, rfl⟩, fun k hk => ⟨fun hlt => ⟨by omega, fun hp => ?_, fun hp => ?_⟩, fun hge => ?_⟩⟩
  · have hk' : k < list.length := by omega
    exact (idxL_nth (t := tyBox) (p := fun z0 : GBox => eqS z0.1 name) (xs := list) hk' (fun j hj => eqS_false.2 (hk.2 j hj)) (eqS_true.2 hp)).symm
  · exact ⟨k + 1, ⟨by omega, allN_step hk.2 hp⟩, by omega, wrapN (by omega)⟩
  · obtain rfl : k = list.length := by omega
    exact (idxL_nth_none (t := tyBox) (p := fun z0 : GBox => eqS z0.1 name) (fun j hj => eqS_false.2 (hk.2 j hj))).symm
def e_s_BoxNamed : Entry Tryz.prog := ⟨293, [.v (.list tyBox), .v tyStr], fun x => True, fun x => .c (.int .i64 (boxIx x.1 x.2.1)), fun _ => [], fun x hx => b_s_BoxNamed x.1 x.2.1, Tryz.call293⟩
end Go.Proofs.YtigebfhekmjhmaaGreat
set_option linter.unusedSimpArgs false
set_option linter.unusedVariables false
namespace Go.Proofs.YtigebfhekmjhmaaGreat
open Go.ChangeShapes Go.WideShapes Go.ChangeAt Go.RowKit Go.Joins Go.Deep
open GoRep (rep bulk)

def boxW (l : List GBox) (u : Int) : Int := idxL (fun z0 : GBox => eqI z0.2.1 u) l
def placeO (l : List GMsg) (u : Int) : Int := idxL (fun z0 : GMsg => eqI z0.1 u) l
set_option maxRecDepth 100000 in
set_option maxHeartbeats 400000 in
theorem b_i_BoxWith_1 (x : GBox) (validity : Int) : BCalls Tryz.prog 137 [.ag (cellsOf tyBox x), .c (.ep .no tyInt ([validity]) 0 0)] (.c (.bool (eqI x.2.1 validity))) [] := by
  refine bcalls_of (T := ⟨[], [], [], [], none, fun _ => [], 0, [], []⟩) (L := L0) Tryz.func137 ⟨⟨rfl, rfl⟩, rfl⟩ (fun hwf => ?_)
  refine Eq.mpr (β := (True ∧ (True ∧ (True ∧ (True ∧ (True ∧ (True ∧ (True ∧ ((true = true ∧ leC (.bool (eqI x.2.1 validity)) (.bool (eqI x.2.1 validity))) ∧ true = true))))))))) (by kernel_rfl) ?_
  simp only [SIA, eq_self]
  repeat' (first | apply And.intro | intro _)
  all_goals (first
    | trivial
    | omega
    | (rw [Bool.eq_iff_iff]; simp_all [Prod.ext_iff, EQA]; done)
    | (simp_all [Prod.ext_iff, EQA]; done))
def e_i_BoxWith_1 : Entry Tryz.prog := ⟨137, [.s tyBox, .p tyInt], fun x => True, fun x => .c (.bool (eqI x.1.2.1 x.2.1)), fun _ => [], fun x hx => b_i_BoxWith_1 x.1 x.2.1, Tryz.call137⟩
set_option maxRecDepth 100000 in
set_option maxHeartbeats 400000 in
theorem b_i_BoxWith (list : List GBox) (validity : Int) : BCalls Tryz.prog 70 [.c (.hs .no tyBox list), .c (.int .i64 validity)] (.c (.int .i64 (boxW list validity))) [] := by
  refine bcalls_of (T := ⟨[e_i_BoxWith_1], [e_slices_IndexFunc_i_Box_i_Box], [], [], none, fun _ => [], 0, [], []⟩) (L := L0) Tryz.func70 ⟨⟨rfl, rfl⟩, rfl⟩ (fun hwf => ?_)
  refine Eq.mpr (β := (True ∧ (True ∧ (True ∧ (True ∧ (((∀ z0 : GBox, True ∧ True) ∧ ∀ (_ : GBox → Bool) (_ : List GBox), true = true) ∧ (True ∧ ((true = true ∧ leC (.int .i64 (idxL (fun z0 : GBox => eqI z0.2.1 validity) list)) (.int .i64 (boxW list validity))) ∧ true = true)))))))) (by kernel_rfl) ?_
  simp only [SI2A, eq_self]
  exact ⟨⟨fun _ => trivial, fun _ _ => trivial⟩, rfl⟩
def e_i_BoxWith : Entry Tryz.prog := ⟨70, [.v (.list tyBox), .v tyInt], fun x => True, fun x => .c (.int .i64 (boxW x.1 x.2.1)), fun _ => [], fun x hx => b_i_BoxWith x.1 x.2.1, Tryz.call70⟩
def L_s_BoxWith (list : List GBox) (validity : Int) : Nat → List AV → Mem → LoopA
  | 2, tm, M => ⟨Nat, fun y => (setA tm [(4, .any), (5, .c (.int .i64 ((y : Nat) : Int))), (6, .any), (7, .any), (8, .any), (9, .any), (10, .any), (11, .any), (12, .any), (13, .any), (14, .any), (15, .any), (16, .any), (17, .any), (18, .any), (19, .any)], M), fun y => (y ≤ List.length list ∧ ∀ j, j < y → eqI (nth_Box list j).2.1 validity = false), fun y => (List.length list - y)⟩
  | _, _, _ => ⟨Unit, fun _ => ([], []), fun _ => False, fun _ => 0⟩
set_option maxRecDepth 100000 in
set_option maxHeartbeats 400000 in
theorem b_s_BoxWith (list : List GBox) (validity : Int) : BCalls Tryz.prog 62 [.c (.hs .no tyBox list), .c (.int .i64 validity)] (.c (.int .i64 (boxW list validity))) [] := by
  refine bcalls_of (T := ⟨[], [], [], [], none, fun _ => [], 0, [], []⟩) (L := (L_s_BoxWith list validity)) Tryz.func62 ⟨⟨rfl, rfl⟩, rfl⟩ (fun hwf => ?_)
  refine Eq.mpr (β := (T2 ((∃ q : Nat, (q ≤ List.length list ∧ ∀ j, j < q → eqI (nth_Box list j).2.1 validity = false) ∧ ((leV (.c (.hs .no tyBox list)) (.c (.hs .no tyBox list)) ∧ leV (.c (.int .i64 validity)) (.c (.int .i64 validity)) ∧ leV (.tp []) (.tp []) ∧ leV (.tp []) (.tp []) ∧ True ∧ leV (.c (.int .i64 0)) (.c (.int .i64 ((q : Nat) : Int))) ∧ True ∧ True ∧ True ∧ True ∧ True ∧ True ∧ True ∧ True ∧ True ∧ True ∧ True ∧ True ∧ True ∧ True ∧ True) ∧ (True) ∧ true = true)) ∧ ∀ y0 : Nat, (y0 ≤ List.length list ∧ ∀ j, j < y0 → eqI (nth_Box list j).2.1 validity = false) → (T4 (bif (ltI ((y0 : Nat) : Int) ((List.length list : Nat) : Int)) then (T2 (((4 : Nat) = 4 ∧ (0 : Int) ≤ ((y0 : Nat) : Int) ∧ (((y0 : Nat) : Int) : Int) < ((List.length list : Nat) : Int)) ∧ (T4 (bif (eqI (nth_Box list (Int.toNat ((y0 : Nat) : Int))).2.1 validity) then (T2 ((true = true ∧ leC (.int .i64 ((y0 : Nat) : Int)) (.int .i64 (boxW list validity))) ∧ true = true)) else (T3 (∃ y0' : Nat, (y0' ≤ List.length list ∧ ∀ j, j < y0' → eqI (nth_Box list j).2.1 validity = false) ∧ (List.length list - y0') < (List.length list - y0) ∧ ((leV (.c (.hs .no tyBox list)) (.c (.hs .no tyBox list)) ∧ leV (.c (.int .i64 validity)) (.c (.int .i64 validity)) ∧ leV (.tp []) (.tp []) ∧ leV (.tp []) (.tp []) ∧ True ∧ leV (.c (.int .i64 (IntKind.wrap .i64 (((y0 : Nat) : Int) + 1)))) (.c (.int .i64 ((y0' : Nat) : Int))) ∧ True ∧ True ∧ True ∧ True ∧ True ∧ True ∧ True ∧ True ∧ True ∧ True ∧ True ∧ True ∧ True ∧ True ∧ True) ∧ (True) ∧ true = true))))))) else (True ∧ ((true = true ∧ leC (.int .i64 (-1)) (.int .i64 (boxW list validity))) ∧ true = true))))))) (by kernel_rfl) ?_
  unfold T2 T3 T4
  simp only [SI2A, eq_self]
  have hm : List.length list ≤ maxLen := hwf.1.1
  refine ⟨⟨0, ⟨Nat.zero_le _, allN_zero⟩, rfl⟩, fun k hk => ⟨fun hlt => ⟨by omega, fun hp => ?_, fun hp => ?_⟩, fun hge => ?_⟩⟩
  · have hk' : k < List.length list := by omega
    have e := idxL_nth (t := tyBox) (p := (fun z0 : GBox => eqI z0.2.1 validity)) (xs := list) hk' (fun j hj => eqI_false.2 (hk.2 j hj)) (eqI_true.2 hp)
    exact e.symm
  · exact ⟨k + 1, ⟨by omega, allN_step hk.2 hp⟩, by omega, wrapN (by omega)⟩
  · obtain rfl : k = List.length list := by omega
    have e := idxL_nth_none (t := tyBox) (p := (fun z0 : GBox => eqI z0.2.1 validity)) (fun j hj => eqI_false.2 (hk.2 j hj))
    exact e.symm
def e_s_BoxWith : Entry Tryz.prog := ⟨62, [.v (.list tyBox), .v tyInt], fun x => True, fun x => .c (.int .i64 (boxW x.1 x.2.1)), fun _ => [], fun x hx => b_s_BoxWith x.1 x.2.1, Tryz.call62⟩
set_option maxRecDepth 100000 in
set_option maxHeartbeats 400000 in
theorem b_i_PlaceOf_1 (x : GMsg) (uid : Int) : BCalls Tryz.prog 298 [.ag [.int .i64 x.1, .int .i64 x.2.1, .str x.2.2], .c (.ep .no tyInt ([uid]) 0 0)] (.c (.bool (eqI x.1 uid))) [] := by
  refine bcalls_of (T := ⟨[], [], [], [], none, fun _ => [], 0, [], []⟩) (L := L0) Tryz.func298 ⟨⟨rfl, rfl⟩, rfl⟩ (fun hwf => ?_)
  refine Eq.mpr (β := (True ∧ (True ∧ (True ∧ (True ∧ (True ∧ (True ∧ (True ∧ ((true = true ∧ leC (.bool (eqI x.1 uid)) (.bool (eqI x.1 uid))) ∧ true = true))))))))) (by kernel_rfl) ?_
  simp only [SIA, eq_self]
  repeat' (first | apply And.intro | intro _)
  all_goals (first
    | trivial
    | omega
    | (rw [Bool.eq_iff_iff]; simp_all [Prod.ext_iff, EQA]; done)
    | (simp_all [Prod.ext_iff, EQA]; done))
def e_i_PlaceOf_1 : Entry Tryz.prog := ⟨298, [.s tyMsg, .p tyInt], fun x => True, fun x => .c (.bool (eqI x.1.1 x.2.1)), fun _ => [], fun x hx => b_i_PlaceOf_1 x.1 x.2.1, Tryz.call298⟩
set_option maxRecDepth 100000 in
set_option maxHeartbeats 400000 in
theorem b_i_PlaceOf (b : GBox) (uid : Int) : BCalls Tryz.prog 272 [.ag (cellsOf tyBox b), .c (.int .i64 uid)] (.c (.int .i64 (placeO b.2.2.2 uid))) [] := by
  refine bcalls_of (T := ⟨[e_i_PlaceOf_1], [e_slices_IndexFunc_i_Msg_i_Msg], [], [], none, fun _ => [], 0, [], []⟩) (L := L0) Tryz.func272 ⟨⟨rfl, rfl⟩, rfl⟩ (fun hwf => ?_)
  refine Eq.mpr (β := (True ∧ (True ∧ (True ∧ (True ∧ (True ∧ (True ∧ (((∀ z0 : GMsg, True ∧ True) ∧ ∀ (_ : GMsg → Bool) (_ : List GMsg), true = true) ∧ (True ∧ ((true = true ∧ leC (.int .i64 (idxL (fun z0 : GMsg => eqI z0.1 uid) b.2.2.2)) (.int .i64 (placeO b.2.2.2 uid))) ∧ true = true)))))))))) (by kernel_rfl) ?_
  simp only [SI2A, eq_self]
  exact ⟨⟨fun _ => trivial, fun _ _ => trivial⟩, rfl⟩
def e_i_PlaceOf : Entry Tryz.prog := ⟨272, [.s tyBox, .v tyInt], fun x => True, fun x => .c (.int .i64 (placeO x.1.2.2.2 x.2.1)), fun _ => [], fun x hx => b_i_PlaceOf x.1 x.2.1, Tryz.call272⟩
def L_s_PlaceOf (b : GBox) (uid : Int) : Nat → List AV → Mem → LoopA
  | 2, tm, M => ⟨Nat, fun y => (setA tm [(4, .any), (5, .c (.int .i64 ((y : Nat) : Int))), (6, .any), (7, .any), (8, .any), (9, .any), (10, .any), (11, .any), (12, .any), (13, .any), (14, .any), (15, .any), (16, .any), (17, .any), (18, .any), (19, .any), (20, .any), (21, .any)], M), fun y => (y ≤ List.length b.2.2.2 ∧ ∀ j, j < y → eqI (nth_Msg b.2.2.2 j).1 uid = false), fun y => (List.length b.2.2.2 - y)⟩
  | _, _, _ => ⟨Unit, fun _ => ([], []), fun _ => False, fun _ => 0⟩
def k080eri (b : GBox) : List AC := [.str b.1, .int .i64 b.2.1, .int .i64 b.2.2.1, .hs .no tyMsg b.2.2.2]
set_option maxRecDepth 100000 in
set_option maxHeartbeats 400000 in
theorem b_s_PlaceOf (b : GBox) (uid : Int) : BCalls Tryz.prog 265 [.ag (cellsOf tyBox b), .c (.int .i64 uid)] (.c (.int .i64 (placeO b.2.2.2 uid))) [] := by
  refine bcalls_of (T := ⟨[], [], [], [], none, fun _ => [], 0, [], []⟩) (L := (L_s_PlaceOf b uid)) Tryz.func265 ⟨⟨rfl, rfl⟩, rfl⟩ (fun hwf => ?_)
  refine Eq.mpr (β := (T3 ((∃ q : Nat, (q ≤ List.length b.2.2.2 ∧ ∀ j, j < q → eqI (nth_Msg b.2.2.2 j).1 uid = false) ∧ ((leV (.ag (k080eri b)) (.ag (k080eri b)) ∧ leV (.c (.int .i64 uid)) (.c (.int .i64 uid)) ∧ leV (.c (.bp 0 0)) (.c (.bp 0 0)) ∧ leV (.tp []) (.tp []) ∧ True ∧ leV (.c (.int .i64 0)) (.c (.int .i64 ((q : Nat) : Int))) ∧ True ∧ True ∧ True ∧ True ∧ True ∧ True ∧ True ∧ True ∧ True ∧ True ∧ True ∧ True ∧ True ∧ True ∧ True ∧ True ∧ True) ∧ (leB (.box (k080eri b)) (.box (k080eri b)) ∧ True) ∧ true = true)) ∧ ∀ y0 : Nat, (y0 ≤ List.length b.2.2.2 ∧ ∀ j, j < y0 → eqI (nth_Msg b.2.2.2 j).1 uid = false) → (T5 (bif (ltI ((y0 : Nat) : Int) ((List.length b.2.2.2 : Nat) : Int)) then (T3 (((3 : Nat) = 3 ∧ (0 : Int) ≤ ((y0 : Nat) : Int) ∧ (((y0 : Nat) : Int) : Int) < ((List.length b.2.2.2 : Nat) : Int)) ∧ (T4 (bif (eqI (nth_Msg b.2.2.2 (Int.toNat ((y0 : Nat) : Int))).1 uid) then (T2 ((true = true ∧ leC (.int .i64 ((y0 : Nat) : Int)) (.int .i64 (placeO b.2.2.2 uid))) ∧ true = true)) else (T3 (∃ y0' : Nat, (y0' ≤ List.length b.2.2.2 ∧ ∀ j, j < y0' → eqI (nth_Msg b.2.2.2 j).1 uid = false) ∧ (List.length b.2.2.2 - y0') < (List.length b.2.2.2 - y0) ∧ ((leV (.ag (k080eri b)) (.ag (k080eri b)) ∧ leV (.c (.int .i64 uid)) (.c (.int .i64 uid)) ∧ leV (.c (.bp 0 0)) (.c (.bp 0 0)) ∧ leV (.tp []) (.tp []) ∧ True ∧ leV (.c (.int .i64 (IntKind.wrap .i64 (((y0 : Nat) : Int) + 1)))) (.c (.int .i64 ((y0' : Nat) : Int))) ∧ True ∧ True ∧ True ∧ True ∧ True ∧ True ∧ True ∧ True ∧ True ∧ True ∧ True ∧ True ∧ True ∧ True ∧ True ∧ True ∧ True) ∧ (leB (.box (k080eri b)) (.box (k080eri b)) ∧ True) ∧ true = true))))))) else (True ∧ ((true = true ∧ leC (.int .i64 (-1)) (.int .i64 (placeO b.2.2.2 uid))) ∧ true = true))))))) (by kernel_rfl) ?_
  unfold k080eri T2 T3 T4 T5
  simp only [SI2A, eq_self]
  have hm : List.length b.2.2.2 ≤ maxLen := hwf.1.2.2.2.1.1
  refine ⟨⟨0, ⟨Nat.zero_le _, allN_zero⟩, rfl⟩, fun k hk => ⟨fun hlt => ⟨by omega, fun hp => ?_, fun hp => ?_⟩, fun hge => ?_⟩⟩
  · have hk' : k < List.length b.2.2.2 := by omega
    have e := idxL_nth (t := tyMsg) (p := (fun z0 : GMsg => eqI z0.1 uid)) (xs := b.2.2.2) hk' (fun j hj => eqI_false.2 (hk.2 j hj)) (eqI_true.2 hp)
    exact e.symm
  · exact ⟨k + 1, ⟨by omega, allN_step hk.2 hp⟩, by omega, wrapN (by omega)⟩
  · obtain rfl : k = List.length b.2.2.2 := by omega
    have e := idxL_nth_none (t := tyMsg) (p := (fun z0 : GMsg => eqI z0.1 uid)) (fun j hj => eqI_false.2 (hk.2 j hj))
    exact e.symm
def e_s_PlaceOf : Entry Tryz.prog := ⟨265, [.s tyBox, .v tyInt], fun x => True, fun x => .c (.int .i64 (placeO x.1.2.2.2 x.2.1)), fun _ => [], fun x hx => b_s_PlaceOf x.1 x.2.1, Tryz.call265⟩
open GoMark (mrk cnt mrkI cntI)
end Go.Proofs.YtigebfhekmjhmaaGreat
