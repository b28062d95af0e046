/-
  FetchTold of program and reference.
  No condition but what the arguments' cells hold. Printed by vcgen.py.
-/
import Derived.Test.YtpokjemdpgjngaaBlLib
import Derived.Test.YtpokjemdpgjngaaLawA
set_option linter.unusedSimpArgs false
set_option linter.unusedVariables false
namespace Go.Proofs.Ytpokjemdpgjngaa
open Go.ChangeShapes Go.WideShapes Go.ChangeAt Go.RowKit Go.Joins Go.Deep
open GoRep (rep bulk)

def seqOf (v : List GSpan) (u : Int) : Int := idxL (fun z0 : GSpan => eqI z0.1 u) v + 1
def boxW (l : List GBox) (u : Int) : Int := idxL (fun z0 : GBox => eqI z0.2.1 u) l
def placeO (l : List GMsg) (u : Int) : Int := idxL (fun z0 : GMsg => eqI z0.1 u) l
theorem seqOf_b (v : List GSpan) (u : Int) : 0 ≤ seqOf v u ∧ seqOf v u ≤ (List.length v : Nat) := by
  have : -1 ≤ idxL (fun z0 : GSpan => eqI z0.1 u) v ∧ idxL (fun z0 : GSpan => eqI z0.1 u) v < (List.length v : Nat) := idxL_lt v
  unfold seqOf
  omega
theorem boxW_b (v : List GBox) (u : Int) : -1 ≤ boxW v u ∧ boxW v u < (List.length v : Nat) := idxL_lt v
theorem placeO_b (v : List GMsg) (u : Int) : -1 ≤ placeO v u ∧ placeO v u < (List.length v : Nat) := idxL_lt v
def textO (st : GStore) (v u : Int) : ByteArray := if boxW st.1 v < 0 then ByteArray.empty else if placeO (nth_Box st.1 (Int.toNat (boxW st.1 v))).2.2.2 u < 0 then ByteArray.empty else (nth_Msg (nth_Box st.1 (Int.toNat (boxW st.1 v))).2.2.2 (Int.toNat (placeO (nth_Box st.1 (Int.toNat (boxW st.1 v))).2.2.2 u))).2.2
def fetchN (st : GStore) (s : GSession) (us : List Int) : Nat → List GCommit
  | 0 => []
  | k + 1 => if 0 < seqOf s.2.2.2.2.1 (nth_Int us k) then fetchN st s us k ++ [(3, seqOf s.2.2.2.2.1 (nth_Int us k), nth_Int us k, (nth_Span s.2.2.2.2.1 (Int.toNat (seqOf s.2.2.2.2.1 (nth_Int us k) - 1))).2, ByteArray.empty, ByteArray.empty), (4, seqOf s.2.2.2.2.1 (nth_Int us k), 0, 0, ByteArray.empty, textO st s.2.2.1 (nth_Int us k))] else fetchN st s us k
def L_s_BoxWith (list : List GBox) (validity : Int) : Nat → List AV → Mem → LoopA
  | 2, tm, M => ⟨Nat, fun y => (setA tm [(4, .any), (5, .c (.int .i64 ((y : Nat) : Int))), (6, .any), (7, .any), (8, .any), (9, .any), (10, .any), (11, .any), (12, .any), (13, .any), (14, .any), (15, .any), (16, .any), (17, .any), (18, .any), (19, .any)], M), fun y => (y ≤ List.length list ∧ ∀ j, j < y → eqI (nth_Box list j).2.1 validity = false), fun y => (List.length list - y)⟩
  | _, _, _ => ⟨Unit, fun _ => ([], []), fun _ => False, fun _ => 0⟩
set_option maxRecDepth 100000 in
set_option maxHeartbeats 400000 in
theorem b_s_BoxWith (list : List GBox) (validity : Int) : BCalls Try.prog 98 [.c (.hs .no tyBox list), .c (.int .i64 validity)] (.c (.int .i64 (boxW list validity))) [] := by
  refine bcalls_of (T := ⟨[], [], [], [], none, fun _ => [], 0, [], []⟩) (L := (L_s_BoxWith list validity)) Try.func98 ⟨⟨rfl, rfl⟩, rfl⟩ (fun hwf => ?_)
  refine Eq.mpr (β := (True ∧ (True ∧ ((∃ q : Nat, (q ≤ List.length list ∧ ∀ j, j < q → eqI (nth_Box list j).2.1 validity = false) ∧ ((leV (.c (.hs .no tyBox list)) (.c (.hs .no tyBox list)) ∧ leV (.c (.int .i64 validity)) (.c (.int .i64 validity)) ∧ leV (.tp []) (.tp []) ∧ leV (.tp []) (.tp []) ∧ True ∧ leV (.c (.int .i64 0)) (.c (.int .i64 ((q : Nat) : Int))) ∧ True ∧ True ∧ True ∧ True ∧ True ∧ True ∧ True ∧ True ∧ True ∧ True ∧ True ∧ True ∧ True ∧ True ∧ True) ∧ (True) ∧ true = true)) ∧ ∀ y0 : Nat, (y0 ≤ List.length list ∧ ∀ j, j < y0 → eqI (nth_Box list j).2.1 validity = false) → (True ∧ (True ∧ (True ∧ (True ∧ (bif (ltI ((y0 : Nat) : Int) ((List.length list : Nat) : Int)) then (True ∧ (True ∧ (((4 : Nat) = 4 ∧ (0 : Int) ≤ ((y0 : Nat) : Int) ∧ (((y0 : Nat) : Int) : Int) < ((List.length list : Nat) : Int)) ∧ (True ∧ (True ∧ (True ∧ (True ∧ (bif (eqI (nth_Box list (Int.toNat ((y0 : Nat) : Int))).2.1 validity) then (True ∧ (True ∧ ((true = true ∧ leC (.int .i64 ((y0 : Nat) : Int)) (.int .i64 (boxW list validity))) ∧ true = true))) else (True ∧ (True ∧ (True ∧ (∃ y0' : Nat, (y0' ≤ List.length list ∧ ∀ j, j < y0' → eqI (nth_Box list j).2.1 validity = false) ∧ (List.length list - y0') < (List.length list - y0) ∧ ((leV (.c (.hs .no tyBox list)) (.c (.hs .no tyBox list)) ∧ leV (.c (.int .i64 validity)) (.c (.int .i64 validity)) ∧ leV (.tp []) (.tp []) ∧ leV (.tp []) (.tp []) ∧ True ∧ leV (.c (.int .i64 (IntKind.wrap .i64 (((y0 : Nat) : Int) + 1)))) (.c (.int .i64 ((y0' : Nat) : Int))) ∧ True ∧ True ∧ True ∧ True ∧ True ∧ True ∧ True ∧ True ∧ True ∧ True ∧ True ∧ True ∧ True ∧ True ∧ True) ∧ (True) ∧ true = true))))))))))))) else (True ∧ ((true = true ∧ leC (.int .i64 (-1)) (.int .i64 (boxW list validity))) ∧ true = true))))))))))) (by kernel_rfl) ?_
  simp only [true_and, and_true, cond_iff, eqI_true, eqI_false, neI_true, neI_false, ltI_true, ltI_false, leI_true, leI_false, gtI_true, gtI_false, geI_true, geI_false, eqS_true, eqS_false, eqO_true, eqO_false, not_true, not_false, Bool.not_eq_true', Bool.not_eq_false', eq_self, leV_any, leV_int, leV_bool, leV_str, leV_refl, leB_refl, leC_int, leC_bool, leC_str, leC_hs, leB_row, leB_rowInt, leB_rowStr, leB_rowBool, leB_rowToken, leB_rowSpan, leB_rowScope, leB_rowFilter, leB_rowCommand, leB_rowMsg, leB_rowBox, leB_rowCommit, leB_rowStore, leB_rowClient, leB_rowNote, leB_rowQueue, leB_rowOut, leB_rowIn, leB_rowSession, leB_rowServer, leB_rowOutcome, Int.toNat_natCast]
  have hm : List.length list ≤ maxLen := hwf.1.1
  refine ⟨⟨0, ⟨Nat.zero_le _, allN_zero⟩, rfl⟩, fun k hk => ⟨fun hlt => ⟨by omega, fun hp => ?_, fun hp => ?_⟩, fun hge => ?_⟩⟩
  · have hk' : k < List.length list := by omega
    have e := idxL_nth (t := tyBox) (p := (fun z0 : GBox => eqI z0.2.1 validity)) (xs := list) hk' (fun j hj => eqI_false.2 (hk.2 j hj)) (eqI_true.2 hp)
    exact e.symm
  · exact ⟨k + 1, ⟨by omega, allN_step hk.2 hp⟩, by omega, wrapN (by omega)⟩
  · obtain rfl : k = List.length list := by omega
    have e := idxL_nth_none (t := tyBox) (p := (fun z0 : GBox => eqI z0.2.1 validity)) (fun j hj => eqI_false.2 (hk.2 j hj))
    exact e.symm
def e_s_BoxWith : Entry Try.prog := ⟨98, [.v (.list tyBox), .v tyInt], fun x => True, fun x => .c (.int .i64 (boxW x.1 x.2.1)), fun _ => [], fun x hx => b_s_BoxWith x.1 x.2.1, Try.call98⟩
def L_s_PlaceOf (b : GBox) (uid : Int) : Nat → List AV → Mem → LoopA
  | 2, tm, M => ⟨Nat, fun y => (setA tm [(4, .any), (5, .c (.int .i64 ((y : Nat) : Int))), (6, .any), (7, .any), (8, .any), (9, .any), (10, .any), (11, .any), (12, .any), (13, .any), (14, .any), (15, .any), (16, .any), (17, .any), (18, .any), (19, .any), (20, .any), (21, .any)], M), fun y => (y ≤ List.length b.2.2.2 ∧ ∀ j, j < y → eqI (nth_Msg b.2.2.2 j).1 uid = false), fun y => (List.length b.2.2.2 - y)⟩
  | _, _, _ => ⟨Unit, fun _ => ([], []), fun _ => False, fun _ => 0⟩
set_option maxRecDepth 100000 in
set_option maxHeartbeats 400000 in
theorem b_s_PlaceOf (b : GBox) (uid : Int) : BCalls Try.prog 101 [.ag [.str b.1, .int .i64 b.2.1, .int .i64 b.2.2.1, .hs .no tyMsg b.2.2.2], .c (.int .i64 uid)] (.c (.int .i64 (placeO b.2.2.2 uid))) [] := by
  refine bcalls_of (T := ⟨[], [], [], [], none, fun _ => [], 0, [], []⟩) (L := (L_s_PlaceOf b uid)) Try.func101 ⟨⟨rfl, rfl⟩, rfl⟩ (fun hwf => ?_)
  refine Eq.mpr (β := (True ∧ (True ∧ (True ∧ ((∃ q : Nat, (q ≤ List.length b.2.2.2 ∧ ∀ j, j < q → eqI (nth_Msg b.2.2.2 j).1 uid = false) ∧ ((leV (.ag [.str b.1, .int .i64 b.2.1, .int .i64 b.2.2.1, .hs .no tyMsg b.2.2.2]) (.ag [.str b.1, .int .i64 b.2.1, .int .i64 b.2.2.1, .hs .no tyMsg b.2.2.2]) ∧ leV (.c (.int .i64 uid)) (.c (.int .i64 uid)) ∧ leV (.c (.bp 0 0)) (.c (.bp 0 0)) ∧ leV (.tp []) (.tp []) ∧ True ∧ leV (.c (.int .i64 0)) (.c (.int .i64 ((q : Nat) : Int))) ∧ True ∧ True ∧ True ∧ True ∧ True ∧ True ∧ True ∧ True ∧ True ∧ True ∧ True ∧ True ∧ True ∧ True ∧ True ∧ True ∧ True) ∧ (leB (.box [.str b.1, .int .i64 b.2.1, .int .i64 b.2.2.1, .hs .no tyMsg b.2.2.2]) (.box [.str b.1, .int .i64 b.2.1, .int .i64 b.2.2.1, .hs .no tyMsg b.2.2.2]) ∧ True) ∧ true = true)) ∧ ∀ y0 : Nat, (y0 ≤ List.length b.2.2.2 ∧ ∀ j, j < y0 → eqI (nth_Msg b.2.2.2 j).1 uid = false) → (True ∧ (True ∧ (True ∧ (True ∧ (True ∧ (bif (ltI ((y0 : Nat) : Int) ((List.length b.2.2.2 : Nat) : Int)) then (True ∧ (True ∧ (True ∧ (((3 : Nat) = 3 ∧ (0 : Int) ≤ ((y0 : Nat) : Int) ∧ (((y0 : Nat) : Int) : Int) < ((List.length b.2.2.2 : Nat) : Int)) ∧ (True ∧ (True ∧ (True ∧ (True ∧ (bif (eqI (nth_Msg b.2.2.2 (Int.toNat ((y0 : Nat) : Int))).1 uid) then (True ∧ (True ∧ ((true = true ∧ leC (.int .i64 ((y0 : Nat) : Int)) (.int .i64 (placeO b.2.2.2 uid))) ∧ true = true))) else (True ∧ (True ∧ (True ∧ (∃ y0' : Nat, (y0' ≤ List.length b.2.2.2 ∧ ∀ j, j < y0' → eqI (nth_Msg b.2.2.2 j).1 uid = false) ∧ (List.length b.2.2.2 - y0') < (List.length b.2.2.2 - y0) ∧ ((leV (.ag [.str b.1, .int .i64 b.2.1, .int .i64 b.2.2.1, .hs .no tyMsg b.2.2.2]) (.ag [.str b.1, .int .i64 b.2.1, .int .i64 b.2.2.1, .hs .no tyMsg b.2.2.2]) ∧ leV (.c (.int .i64 uid)) (.c (.int .i64 uid)) ∧ leV (.c (.bp 0 0)) (.c (.bp 0 0)) ∧ leV (.tp []) (.tp []) ∧ True ∧ leV (.c (.int .i64 (IntKind.wrap .i64 (((y0 : Nat) : Int) + 1)))) (.c (.int .i64 ((y0' : Nat) : Int))) ∧ True ∧ True ∧ True ∧ True ∧ True ∧ True ∧ True ∧ True ∧ True ∧ True ∧ True ∧ True ∧ True ∧ True ∧ True ∧ True ∧ True) ∧ (leB (.box [.str b.1, .int .i64 b.2.1, .int .i64 b.2.2.1, .hs .no tyMsg b.2.2.2]) (.box [.str b.1, .int .i64 b.2.1, .int .i64 b.2.2.1, .hs .no tyMsg b.2.2.2]) ∧ True) ∧ true = true)))))))))))))) else (True ∧ ((true = true ∧ leC (.int .i64 (-1)) (.int .i64 (placeO b.2.2.2 uid))) ∧ true = true))))))))))))) (by kernel_rfl) ?_
  simp only [true_and, and_true, cond_iff, eqI_true, eqI_false, neI_true, neI_false, ltI_true, ltI_false, leI_true, leI_false, gtI_true, gtI_false, geI_true, geI_false, eqS_true, eqS_false, eqO_true, eqO_false, not_true, not_false, Bool.not_eq_true', Bool.not_eq_false', eq_self, leV_any, leV_int, leV_bool, leV_str, leV_refl, leB_refl, leC_int, leC_bool, leC_str, leC_hs, leB_row, leB_rowInt, leB_rowStr, leB_rowBool, leB_rowToken, leB_rowSpan, leB_rowScope, leB_rowFilter, leB_rowCommand, leB_rowMsg, leB_rowBox, leB_rowCommit, leB_rowStore, leB_rowClient, leB_rowNote, leB_rowQueue, leB_rowOut, leB_rowIn, leB_rowSession, leB_rowServer, leB_rowOutcome, Int.toNat_natCast]
  have hm : List.length b.2.2.2 ≤ maxLen := hwf.1.2.2.2.1.1
  refine ⟨⟨0, ⟨Nat.zero_le _, allN_zero⟩, rfl⟩, fun k hk => ⟨fun hlt => ⟨by omega, fun hp => ?_, fun hp => ?_⟩, fun hge => ?_⟩⟩
  · have hk' : k < List.length b.2.2.2 := by omega
    have e := idxL_nth (t := tyMsg) (p := (fun z0 : GMsg => eqI z0.1 uid)) (xs := b.2.2.2) hk' (fun j hj => eqI_false.2 (hk.2 j hj)) (eqI_true.2 hp)
    exact e.symm
  · exact ⟨k + 1, ⟨by omega, allN_step hk.2 hp⟩, by omega, wrapN (by omega)⟩
  · obtain rfl : k = List.length b.2.2.2 := by omega
    have e := idxL_nth_none (t := tyMsg) (p := (fun z0 : GMsg => eqI z0.1 uid)) (fun j hj => eqI_false.2 (hk.2 j hj))
    exact e.symm
def e_s_PlaceOf : Entry Try.prog := ⟨101, [.s tyBox, .v tyInt], fun x => True, fun x => .c (.int .i64 (placeO x.1.2.2.2 x.2.1)), fun _ => [], fun x hx => b_s_PlaceOf x.1 x.2.1, Try.call101⟩
theorem fetchN_len {st : GStore} {s : GSession} {us : List Int} : ∀ k, (fetchN st s us k).length ≤ 2 * k
  | 0 => Nat.le_refl _
  | k + 1 => by
    have := fetchN_len (st := st) (s := s) (us := us) k
    unfold fetchN
    split
    · rw [List.length_append]; simp only [List.length_cons, List.length_nil]; omega
    · omega
theorem fetchN_yes {st : GStore} {s : GSession} {us : List Int} {k : Nat} {t : ByteArray} (h : 0 < seqOf s.2.2.2.2.1 (nth_Int us k)) (ht : t = textO st s.2.2.1 (nth_Int us k)) : fetchN st s us k ++ [(3, seqOf s.2.2.2.2.1 (nth_Int us k), nth_Int us k, (nth_Span s.2.2.2.2.1 (Int.toNat (seqOf s.2.2.2.2.1 (nth_Int us k) - 1))).2, (⟨#[]⟩ : ByteArray), (⟨#[]⟩ : ByteArray)), (4, seqOf s.2.2.2.2.1 (nth_Int us k), 0, 0, (⟨#[]⟩ : ByteArray), t)] = fetchN st s us (k + 1) := by
  subst ht
  exact (if_pos h).symm
theorem fetchN_no {st : GStore} {s : GSession} {us : List Int} {k : Nat} (h : ¬ 0 < seqOf s.2.2.2.2.1 (nth_Int us k)) : fetchN st s us k = fetchN st s us (k + 1) := (if_neg h).symm
open GoMark (mrk cnt mrkI cntI)
theorem fetchN_cnt {st : GStore} {s : GSession} {us : List Int} : ∀ k, cntL (fetchN st s us k) ≤ 12 * k
  | 0 => Nat.le_refl _
  | k + 1 => by
    have := fetchN_cnt (st := st) (s := s) (us := us) k
    unfold fetchN
    split
    · rw [cntL_append]
      show _ + 12 ≤ _
      omega
    · omega
end Go.Proofs.Ytpokjemdpgjngaa
