/-
  Contracts of FirstNote and Pending, of the program and the reference.
  No condition but what the arguments' cells hold. Printed by gf_pend.py.
-/
import Derived.Test.YtigakalkkaoflaaTell
namespace Go.Proofs.Ytigakalkkaoflaa
open Go.ChangeShapes Go.WideShapes Go.ChangeAt Go.RowKit Go.Joins Go.Deep
open GoRep (rep bulk)
open GoMark (mrk cnt mrkI cntI)

theorem held_queue {w : World} {xs : List GNote} {v : Value} (h : Held w xs [v]) (b c : Bool) : Held w ((xs, b, c) : GQueue) [v, .bool b, .bool c] := by
  obtain ⟨F, h⟩ := h
  exact ⟨_, _, _, _, _, h, ⟨_, _, _, _, ⟨rfl, rfl⟩, ⟨rfl, rfl⟩, rfl, rfl⟩, rfl, rfl⟩
/-- is it a note of the box -/
def isBox (n : GNote) : Bool := n.1 == 1
/-- a note of the box, or another one -/
def noteT (box other : Bool) (n : GNote) : Bool := if isBox n then box else other
def pending (s : GSession) : Bool := match s with
  | (live, st, bx, at_, v, f, idle, wait, (notes, resync, lost), i, o, k) =>
    live && (lost || mayTell (live, st, bx, at_, v, f, idle, wait, (notes, resync, lost), i, o, k) && resync || notes.any (noteT (mayTell (live, st, bx, at_, v, f, idle, wait, (notes, resync, lost), i, o, k)) true))
set_option maxRecDepth 100000 in
set_option maxHeartbeats 800000 in
theorem i_isBoxNote (w : World) (a : GNote) (ca : List Value) (ha : Held w a ca) :
    Calls Try.prog 157 #[.agg ca.toArray] w (RV (.bool (isBox a)) w) := by
  have Ra := Lib.hid ha
  obtain ⟨Fa, ha⟩ := ha
  obtain ⟨x1a, x2a, x3a, x4a⟩ := a
  obtain ⟨_, _, _, _, qx1a, ha', rfl, rfl⟩ := ha
  obtain ⟨rfl, ix1a, rfl⟩ := qx1a
  obtain ⟨_, _, _, _, qx2a, ha'', rfl, rfl⟩ := ha'
  obtain ⟨rfl, ix2a, rfl⟩ := qx2a
  obtain ⟨_, _, _, _, qx3a, ha''', rfl, rfl⟩ := ha''
  obtain ⟨rfl, ix3a, rfl⟩ := qx3a
  obtain ⟨rfl, gx4a, rfl⟩ := ha'''
  have hsx4a : x4a.size ≤ 9223372036854775807 := le63 gx4a
  clear ix1a
  clear ix2a
  clear ix3a
  clear gx4a
  change Calls Try.prog 157 #[.agg #[.int .i64 x1a, .int .i64 x2a, .int .i64 x3a, .string x4a]] w _
  go_enter Try.func157, Try.ntmps157
  go_wp2
  all_goals
    go_ret
    exact RV.mk (ret_bool (by (try simp_all [isBox]) <;> (try (rw [Bool.eq_iff_iff]; simp)))) (by repeat (first | exact Below.refl _ _ | refine bl_al ?_ _ | refine bl_ext ?_ _ _ | refine Below.drew ?_ | assumption | refine bl_tr ?_ (by assumption)))
set_option maxRecDepth 100000 in
set_option maxHeartbeats 800000 in
theorem i_isOtherNote (w : World) (a : GNote) (ca : List Value) (ha : Held w a ca) :
    Calls Try.prog 178 #[.agg ca.toArray] w (RV (.bool (!isBox a)) w) := by
  have Ra := Lib.hid ha
  obtain ⟨Fa, ha⟩ := ha
  obtain ⟨x1a, x2a, x3a, x4a⟩ := a
  obtain ⟨_, _, _, _, qx1a, ha', rfl, rfl⟩ := ha
  obtain ⟨rfl, ix1a, rfl⟩ := qx1a
  obtain ⟨_, _, _, _, qx2a, ha'', rfl, rfl⟩ := ha'
  obtain ⟨rfl, ix2a, rfl⟩ := qx2a
  obtain ⟨_, _, _, _, qx3a, ha''', rfl, rfl⟩ := ha''
  obtain ⟨rfl, ix3a, rfl⟩ := qx3a
  obtain ⟨rfl, gx4a, rfl⟩ := ha'''
  have hsx4a : x4a.size ≤ 9223372036854775807 := le63 gx4a
  clear ix1a
  clear ix2a
  clear ix3a
  clear gx4a
  change Calls Try.prog 178 #[.agg #[.int .i64 x1a, .int .i64 x2a, .int .i64 x3a, .string x4a]] w _
  go_enter Try.func178, Try.ntmps178
  go_wp2
  all_goals
    go_ret
    exact RV.mk (ret_bool (by (try simp_all [isBox]) <;> (try (rw [Bool.eq_iff_iff]; simp)))) (by repeat (first | exact Below.refl _ _ | refine bl_al ?_ _ | refine bl_ext ?_ _ _ | refine Below.drew ?_ | assumption | refine bl_tr ?_ (by assumption)))
set_option maxRecDepth 100000 in
set_option maxHeartbeats 800000 in
theorem i_FirstNote_1 (w : World) (a : GNote) (ca : List Value) (ha : Held w a ca) (box other : Bool) (p q : Nat) (hp : w.cell? ⟨p, 0, none⟩ = some (.bool box)) (hq : w.cell? ⟨q, 0, none⟩ = some (.bool other)) :
    Calls Try.prog 177 #[.agg ca.toArray, .pointer (some ⟨p, 0, none⟩), .pointer (some ⟨q, 0, none⟩)] w (RV (.bool (noteT box other a)) w) := by
  have Ra := Lib.hid ha
  obtain ⟨Fa, ha⟩ := ha
  obtain ⟨x1a, x2a, x3a, x4a⟩ := a
  obtain ⟨_, _, _, _, qx1a, ha', rfl, rfl⟩ := ha
  obtain ⟨rfl, ix1a, rfl⟩ := qx1a
  obtain ⟨_, _, _, _, qx2a, ha'', rfl, rfl⟩ := ha'
  obtain ⟨rfl, ix2a, rfl⟩ := qx2a
  obtain ⟨_, _, _, _, qx3a, ha''', rfl, rfl⟩ := ha''
  obtain ⟨rfl, ix3a, rfl⟩ := qx3a
  obtain ⟨rfl, gx4a, rfl⟩ := ha'''
  have hsx4a : x4a.size ≤ 9223372036854775807 := le63 gx4a
  clear ix1a
  clear ix2a
  clear ix3a
  clear gx4a
  change Calls Try.prog 177 #[.agg #[.int .i64 x1a, .int .i64 x2a, .int .i64 x3a, .string x4a], .pointer (some ⟨p, 0, none⟩), .pointer (some ⟨q, 0, none⟩)] w _
  have hlp := lt_of_cell hp
  have hlq := lt_of_cell hq
  cases hb : isBox (x1a, x2a, x3a, x4a)
  all_goals
    have HB := Lib.hid hb
    cases box
    all_goals
      cases other
      all_goals
        go_enter Try.func177, Try.ntmps177
        go_wp2_with (first | (go_at_call 157; refine (i_isBoxNote _ (x1a, x2a, x3a, x4a) _ (by repeat (first | exact Ra.out | with_reducible refine held_alloc ?_ _ | with_reducible refine held_ext ?_ _ _))).mono ?_; rintro e _ ⟨rfl, E, d, rfl⟩) | (go_at_call 178; refine (i_isOtherNote _ (x1a, x2a, x3a, x4a) _ (by repeat (first | exact Ra.out | with_reducible refine held_alloc ?_ _ | with_reducible refine held_ext ?_ _ _))).mono ?_; rintro e _ ⟨rfl, E, d, rfl⟩))
        all_goals
          go_ret
          exact RV.mk (ret_bool (by simp [noteT, HB.out])) (by repeat (first | exact Below.refl _ _ | refine bl_al ?_ _ | refine bl_ext ?_ _ _ | refine Below.drew ?_ | assumption | refine bl_tr ?_ (by assumption)))
set_option maxRecDepth 100000 in
set_option maxHeartbeats 800000 in
theorem i_FirstNote (w : World) (a : GQueue) (ca : List Value) (ha : Held w a ca) (box : Bool) (other : Bool) :
    Calls Try.prog 101 #[.agg ca.toArray, .bool box, .bool other] w (RV (.int .i64 (idxL (noteT box other) a.1)) w) := by
  have Ra := Lib.hid ha
  obtain ⟨Fa, ha⟩ := ha
  obtain ⟨x1a, x2a, x3a⟩ := a
  obtain ⟨_, _, _, _, qx1a, ha', rfl, rfl⟩ := ha
  have Rx1a := Lib.hid (Held.mk qx1a)
  obtain ⟨Ax1a, cx1a, rfl, Sx1a⟩ := qx1a
  obtain ⟨_, _, _, _, qx2a, ha'', rfl, rfl⟩ := ha'
  obtain ⟨rfl, rfl⟩ := qx2a
  obtain ⟨rfl, rfl⟩ := ha''
  have hlx1a : x1a.length ≤ cx1a := Sx1a.1
  have hmx1a := le63 Sx1a.2.1
  have HSx1a := Lib.hid Sx1a
  have Kx1a := Lib.hid (Held.ofS Sx1a)
  clear Sx1a
  change Calls Try.prog 101 #[.agg #[.slice Ax1a x1a.length cx1a, .bool x2a, .bool x3a], .bool box, .bool other] w _
  show Calls Try.prog 101 #[.agg #[.slice Ax1a x1a.length cx1a, .bool x2a, .bool x3a], .bool box, .bool other] w (RV (.int .i64 (idxL (noteT box other) x1a)) w)
  go_enter Try.func101, Try.ntmps101
  go_wp2_with fail
  refine (IndexFunc_Note (noteT box other) 177 #[.pointer (some ⟨w.heap.size + 1, 0, none⟩), .pointer (some ⟨w.heap.size + 1 + 1, 0, none⟩)] x1a _ _ (by repeat (first | exact Kx1a.out | with_reducible refine held_alloc ?_ _ | with_reducible refine held_ext ?_ _ _)) ⟨Try.call177, fun W hW x cs hx => i_FirstNote_1 W x cs hx box other (w.heap.size + 1) (w.heap.size + 1 + 1) (by rw [hW.cell (by simp)]; go_simp) (by rw [hW.cell (by simp)]; go_simp)⟩).mono ?_
  rintro e _ ⟨rfl, E1, d1, rfl⟩
  go_wp2
  go_ret
  exact RV.mk rfl (by repeat (first | exact Below.refl _ _ | refine bl_al ?_ _ | refine bl_ext ?_ _ _ | refine Below.drew ?_ | assumption | refine bl_tr ?_ (by assumption)))
set_option maxRecDepth 100000 in
set_option maxHeartbeats 2000000 in
theorem s_FirstNote (w : World) (a : GQueue) (ca : List Value) (ha : Held w a ca) (box : Bool) (other : Bool) :
    Calls Try.prog 100 #[.agg ca.toArray, .bool box, .bool other] w (RV (.int .i64 (idxL (noteT box other) a.1)) w) := by
  have Ra := Lib.hid ha
  obtain ⟨Fa, ha⟩ := ha
  obtain ⟨x1a, x2a, x3a⟩ := a
  obtain ⟨_, _, _, _, qx1a, ha', rfl, rfl⟩ := ha
  have Rx1a := Lib.hid (Held.mk qx1a)
  obtain ⟨Ax1a, cx1a, rfl, Sx1a⟩ := qx1a
  obtain ⟨_, _, _, _, qx2a, ha'', rfl, rfl⟩ := ha'
  obtain ⟨rfl, rfl⟩ := qx2a
  obtain ⟨rfl, rfl⟩ := ha''
  have hlx1a : x1a.length ≤ cx1a := Sx1a.1
  have hmx1a := le63 Sx1a.2.1
  have HSx1a := Lib.hid Sx1a
  have Kx1a := Lib.hid (Held.ofS Sx1a)
  clear Sx1a
  change Calls Try.prog 100 #[.agg #[.slice Ax1a x1a.length cx1a, .bool x2a, .bool x3a], .bool box, .bool other] w _
  show Calls Try.prog 100 #[.agg #[.slice Ax1a x1a.length cx1a, .bool x2a, .bool x3a], .bool box, .bool other] w (RV (.int .i64 (idxL (noteT box other) x1a)) w)
  have hNone : x1a.any (noteT box other) = false → idxL (noteT box other) x1a = -1 := idxL_none
  have HNONE := Lib.hid hNone
  clear hNone
  go_enter Try.func100, Try.ntmps100
  go_wp2
  go_loopw [7] (fun i wr => ∃ (k : Nat) (E : Array Obj) (d : Nat), k ≤ x1a.length ∧ Hid ((x1a.take k).any (noteT box other) = false) ∧ i = .int .i64 k ∧ wr = ext (w.alloc (.cells #[.slice Ax1a x1a.length cx1a, .bool x2a, .bool x3a] 64)) E d) (fun i _ => x1a.length - (intOf i).toNat)
  case atStart => exact ⟨0, #[], (w.alloc (.cells #[.slice Ax1a x1a.length cx1a, .bool x2a, .bool x3a] 64)).drawn, by omega, Lib.hid rfl, rfl, by first | rfl | simp [ext]⟩
  case round =>
    obtain ⟨k, E, d, hk, HA, rfl, rfl⟩ := hrel
    by_cases hlt : k < x1a.length
    · skip
      obtain ⟨bx1a, offx1a, xx1a, csx1a, Gkx1a, rfl, hxx1a, hrx1a, _, _, hbx1a, hCx1a⟩ := HSx1a.out.at_ hlt
      have HRx1a := Lib.hid (Held.mk hrx1a)
      obtain ⟨x1x1a, x2x1a, x3x1a, x4x1a⟩ := xx1a
      have HXx1a := Lib.hid hxx1a
      clear hxx1a
      obtain ⟨_, _, _, _, ⟨rfl, _, rfl⟩, ⟨_, _, _, _, ⟨rfl, _, rfl⟩, ⟨_, _, _, _, ⟨rfl, _, rfl⟩, ⟨rfl, _, rfl⟩, rfl, rfl⟩, rfl, rfl⟩, rfl, rfl⟩ := hrx1a
      have k0x1a : w.cell? ⟨bx1a, offx1a + k * 4, none⟩ = some (.int .i64 x1x1a) := (hCx1a 0 _ rfl).1
      have k1x1a : w.cell? ⟨bx1a, offx1a + k * 4 + 1, none⟩ = some (.int .i64 x2x1a) := (hCx1a 1 _ rfl).1
      have k2x1a : w.cell? ⟨bx1a, offx1a + k * 4 + 2, none⟩ = some (.int .i64 x3x1a) := (hCx1a 2 _ rfl).1
      have k3x1a : w.cell? ⟨bx1a, offx1a + k * 4 + 3, none⟩ = some (.string x4x1a) := (hCx1a 3 _ rfl).1
      clear hCx1a
      by_cases hpx : (noteT box other) (x1x1a, x2x1a, x3x1a, x4x1a) = true
      · have HF := Lib.hid (any_at HXx1a.out hpx)
        have HI := Lib.hid (idxL_at HA.out HXx1a.out hpx)
        have HPX := Lib.hid hpx
        clear hpx
        cases box
        all_goals
          cases other
          all_goals
            by_cases hk : x1x1a = 1
            all_goals first
              | (exfalso; have h := HPX.out; simp [noteT, isBox, hk] at h; done)
              | (go_wp2_with fail; go_quiet (fail); go_wp2; go_ret; exact RV.mk (ret_int HI.out.symm) (by repeat (first | exact Below.refl _ _ | refine bl_al ?_ _ | refine bl_ext ?_ _ _ | refine Below.drew ?_ | assumption | refine bl_tr ?_ (by assumption))))
              | (go_wp2; go_ret; exact RV.mk (ret_int HI.out.symm) (by repeat (first | exact Below.refl _ _ | refine bl_al ?_ _ | refine bl_ext ?_ _ _ | refine Below.drew ?_ | assumption | refine bl_tr ?_ (by assumption))))
      · have hpx := Bool.eq_false_iff.2 hpx
        have HPX := Lib.hid hpx
        clear hpx
        cases box
        all_goals
          cases other
          all_goals
            by_cases hk : x1x1a = 1
            all_goals try (exfalso; have h := HPX.out; simp [noteT, isBox, hk] at h; done)
        all_goals
          go_wp2
          go_roundw
          case rel => exact ⟨k + 1, _, _, by omega, Lib.hid (any_snoc HA.out HXx1a.out HPX.out), by go_num, by (try simp only [drew_ext, drewN_ext, ext_ext, ext_alloc]); rfl⟩
          case measure => simp [intOf]; omega
    · have HF := Lib.hid (show x1a.any (noteT box other) = false by have := HA.out; rwa [List.take_of_length_le (Nat.le_of_not_lt hlt)] at this)
      go_wp2
      go_ret
      exact RV.mk (ret_int (HNONE.out HF.out).symm) (by repeat (first | exact Below.refl _ _ | refine bl_al ?_ _ | refine bl_ext ?_ _ _ | refine Below.drew ?_ | assumption | refine bl_tr ?_ (by assumption)))
set_option maxRecDepth 100000 in
set_option maxHeartbeats 4000000 in
theorem i_Pending (w : World) (a : GSession) (ca : List Value) (ha : Held w a ca) :
    Calls Try.prog 29 #[.agg ca.toArray] w (RV (.bool (pending a)) w) := by
  have Ra := Lib.hid ha
  obtain ⟨Fa, ha⟩ := ha
  obtain ⟨x1a, x2a, x3a, x4a, x5a, ⟨x6a, x7a⟩, x8a, x9a, ⟨x10a, x11a, x12a⟩, ⟨x13a, x14a⟩, ⟨x15a, x16a⟩, x17a⟩ := a
  obtain ⟨_, _, _, _, qx1a, ha', rfl, rfl⟩ := ha
  obtain ⟨rfl, rfl⟩ := qx1a
  obtain ⟨_, _, _, _, qx2a, ha'', rfl, rfl⟩ := ha'
  obtain ⟨rfl, ix2a, rfl⟩ := qx2a
  obtain ⟨_, _, _, _, qx3a, ha''', rfl, rfl⟩ := ha''
  obtain ⟨rfl, ix3a, rfl⟩ := qx3a
  obtain ⟨_, _, _, _, qx4a, ha'''', rfl, rfl⟩ := ha'''
  obtain ⟨rfl, ix4a, rfl⟩ := qx4a
  obtain ⟨_, _, _, _, qView_x5a, ha''''', rfl, rfl⟩ := ha''''
  have RView_x5a := Lib.hid (Held.mk qView_x5a)
  obtain ⟨Ax5a, cx5a, rfl, Sx5a⟩ := qView_x5a
  obtain ⟨_, _, _, _, qFilter_x6a, ha'''''', rfl, rfl⟩ := ha'''''
  have RFilter_x6a := Lib.hid (Held.mk qFilter_x6a)
  obtain ⟨_, _, _, _, ⟨rfl, rfl⟩, ⟨Ax7a, cx7a, rfl, Sx7a⟩, rfl, rfl⟩ := qFilter_x6a
  obtain ⟨_, _, _, _, qx8a, ha''''''', rfl, rfl⟩ := ha''''''
  obtain ⟨rfl, gx8a, rfl⟩ := qx8a
  obtain ⟨_, _, _, _, qx9a, ha'''''''', rfl, rfl⟩ := ha'''''''
  obtain ⟨rfl, gx9a, rfl⟩ := qx9a
  obtain ⟨_, _, _, _, qQueue_x10a, ha''''''''', rfl, rfl⟩ := ha''''''''
  have RQueue_x10a := Lib.hid (Held.mk qQueue_x10a)
  obtain ⟨_, _, _, _, ⟨Ax10a, cx10a, rfl, Sx10a⟩, ⟨_, _, _, _, ⟨rfl, rfl⟩, ⟨rfl, rfl⟩, rfl, rfl⟩, rfl, rfl⟩ := qQueue_x10a
  obtain ⟨_, _, _, _, qIn_x13a, ha'''''''''', rfl, rfl⟩ := ha'''''''''
  have RIn_x13a := Lib.hid (Held.mk qIn_x13a)
  obtain ⟨_, _, _, _, ⟨rfl, gx13a, rfl⟩, ⟨rfl, rfl⟩, rfl, rfl⟩ := qIn_x13a
  obtain ⟨_, _, _, _, qOut_x15a, ha''''''''''', rfl, rfl⟩ := ha''''''''''
  have ROut_x15a := Lib.hid (Held.mk qOut_x15a)
  obtain ⟨_, _, _, _, ⟨rfl, gx15a, rfl⟩, ⟨rfl, gx16a, rfl⟩, rfl, rfl⟩ := qOut_x15a
  obtain ⟨rfl, ix17a, rfl⟩ := ha'''''''''''
  have hsx8a : x8a.size ≤ 9223372036854775807 := le63 gx8a
  have hsx9a : x9a.size ≤ 9223372036854775807 := le63 gx9a
  have hsx13a : x13a.size ≤ 9223372036854775807 := le63 gx13a
  have hsx15a : x15a.size ≤ 9223372036854775807 := le63 gx15a
  have hsx16a : x16a.size ≤ 9223372036854775807 := le63 gx16a
  clear ix2a
  clear ix3a
  clear ix4a
  have hlx5a : x5a.length ≤ cx5a := Sx5a.1
  have hmx5a := le63 Sx5a.2.1
  have HSx5a := Lib.hid Sx5a
  have Kx5a := Lib.hid (Held.ofS Sx5a)
  clear Sx5a
  have hlx7a : x7a.length ≤ cx7a := Sx7a.1
  have hmx7a := le63 Sx7a.2.1
  have HSx7a := Lib.hid Sx7a
  have Kx7a := Lib.hid (Held.ofS Sx7a)
  clear Sx7a
  clear gx8a
  clear gx9a
  have hlx10a : x10a.length ≤ cx10a := Sx10a.1
  have hmx10a := le63 Sx10a.2.1
  have HSx10a := Lib.hid Sx10a
  have Kx10a := Lib.hid (Held.ofS Sx10a)
  clear Sx10a
  clear gx13a
  clear gx15a
  clear gx16a
  clear ix17a
  change Calls Try.prog 29 #[.agg #[.bool x1a, .int .i64 x2a, .int .i64 x3a, .int .i64 x4a, .slice Ax5a x5a.length cx5a, .bool x6a, .slice Ax7a x7a.length cx7a, .string x8a, .string x9a, .slice Ax10a x10a.length cx10a, .bool x11a, .bool x12a, .string x13a, .bool x14a, .string x15a, .string x16a, .int .i64 x17a]] w _
  have hany : ∀ m, x10a.any (noteT m true) = decide (0 ≤ idxL (noteT m true) x10a) := fun m => by
    rw [Bool.eq_iff_iff]
    simp only [decide_eq_true_eq]
    exact (idxL_ge x10a).symm
  have HANY := Lib.hid hany
  clear hany
  cases hm : mayTell ((x1a, x2a, x3a, x4a, x5a, (x6a, x7a), x8a, x9a, (x10a, x11a, x12a), (x13a, x14a), (x15a, x16a), x17a) : GSession)
  all_goals
    have HM := Lib.hid hm
    clear hm
    go_enter Try.func29, Try.ntmps29
    go_wp2_with (first | (go_at_call 26; refine (i_MayTell _ ((x1a, x2a, x3a, x4a, x5a, (x6a, x7a), x8a, x9a, (x10a, x11a, x12a), (x13a, x14a), (x15a, x16a), x17a) : GSession) _ (by repeat (first | exact Ra.out | with_reducible refine held_alloc ?_ _ | with_reducible refine held_ext ?_ _ _))).mono ?_; rintro e _ ⟨rfl, E1, d1, rfl⟩; rw [HM.out]) | (go_at_call 101; refine (i_FirstNote _ (x10a, _, _) _ (held_queue (by repeat (first | exact Kx10a.out | with_reducible refine held_alloc ?_ _ | with_reducible refine held_ext ?_ _ _)) _ _) _ _).mono ?_; rintro e _ ⟨rfl, E2, d2, rfl⟩))
    all_goals
      go_ret
      exact RV.mk (ret_bool (by have h1 := HM.out; have h2 := HANY.out; simp_all [pending])) (by repeat (first | exact Below.refl _ _ | refine bl_al ?_ _ | refine bl_ext ?_ _ _ | refine Below.drew ?_ | assumption | refine bl_tr ?_ (by assumption)))
set_option maxRecDepth 100000 in
set_option maxHeartbeats 4000000 in
theorem s_Pending (w : World) (a : GSession) (ca : List Value) (ha : Held w a ca) :
    Calls Try.prog 28 #[.agg ca.toArray] w (RV (.bool (pending a)) w) := by
  have Ra := Lib.hid ha
  obtain ⟨Fa, ha⟩ := ha
  obtain ⟨x1a, x2a, x3a, x4a, x5a, ⟨x6a, x7a⟩, x8a, x9a, ⟨x10a, x11a, x12a⟩, ⟨x13a, x14a⟩, ⟨x15a, x16a⟩, x17a⟩ := a
  obtain ⟨_, _, _, _, qx1a, ha', rfl, rfl⟩ := ha
  obtain ⟨rfl, rfl⟩ := qx1a
  obtain ⟨_, _, _, _, qx2a, ha'', rfl, rfl⟩ := ha'
  obtain ⟨rfl, ix2a, rfl⟩ := qx2a
  obtain ⟨_, _, _, _, qx3a, ha''', rfl, rfl⟩ := ha''
  obtain ⟨rfl, ix3a, rfl⟩ := qx3a
  obtain ⟨_, _, _, _, qx4a, ha'''', rfl, rfl⟩ := ha'''
  obtain ⟨rfl, ix4a, rfl⟩ := qx4a
  obtain ⟨_, _, _, _, qView_x5a, ha''''', rfl, rfl⟩ := ha''''
  have RView_x5a := Lib.hid (Held.mk qView_x5a)
  obtain ⟨Ax5a, cx5a, rfl, Sx5a⟩ := qView_x5a
  obtain ⟨_, _, _, _, qFilter_x6a, ha'''''', rfl, rfl⟩ := ha'''''
  have RFilter_x6a := Lib.hid (Held.mk qFilter_x6a)
  obtain ⟨_, _, _, _, ⟨rfl, rfl⟩, ⟨Ax7a, cx7a, rfl, Sx7a⟩, rfl, rfl⟩ := qFilter_x6a
  obtain ⟨_, _, _, _, qx8a, ha''''''', rfl, rfl⟩ := ha''''''
  obtain ⟨rfl, gx8a, rfl⟩ := qx8a
  obtain ⟨_, _, _, _, qx9a, ha'''''''', rfl, rfl⟩ := ha'''''''
  obtain ⟨rfl, gx9a, rfl⟩ := qx9a
  obtain ⟨_, _, _, _, qQueue_x10a, ha''''''''', rfl, rfl⟩ := ha''''''''
  have RQueue_x10a := Lib.hid (Held.mk qQueue_x10a)
  obtain ⟨_, _, _, _, ⟨Ax10a, cx10a, rfl, Sx10a⟩, ⟨_, _, _, _, ⟨rfl, rfl⟩, ⟨rfl, rfl⟩, rfl, rfl⟩, rfl, rfl⟩ := qQueue_x10a
  obtain ⟨_, _, _, _, qIn_x13a, ha'''''''''', rfl, rfl⟩ := ha'''''''''
  have RIn_x13a := Lib.hid (Held.mk qIn_x13a)
  obtain ⟨_, _, _, _, ⟨rfl, gx13a, rfl⟩, ⟨rfl, rfl⟩, rfl, rfl⟩ := qIn_x13a
  obtain ⟨_, _, _, _, qOut_x15a, ha''''''''''', rfl, rfl⟩ := ha''''''''''
  have ROut_x15a := Lib.hid (Held.mk qOut_x15a)
  obtain ⟨_, _, _, _, ⟨rfl, gx15a, rfl⟩, ⟨rfl, gx16a, rfl⟩, rfl, rfl⟩ := qOut_x15a
  obtain ⟨rfl, ix17a, rfl⟩ := ha'''''''''''
  have hsx8a : x8a.size ≤ 9223372036854775807 := le63 gx8a
  have hsx9a : x9a.size ≤ 9223372036854775807 := le63 gx9a
  have hsx13a : x13a.size ≤ 9223372036854775807 := le63 gx13a
  have hsx15a : x15a.size ≤ 9223372036854775807 := le63 gx15a
  have hsx16a : x16a.size ≤ 9223372036854775807 := le63 gx16a
  clear ix2a
  clear ix3a
  clear ix4a
  have hlx5a : x5a.length ≤ cx5a := Sx5a.1
  have hmx5a := le63 Sx5a.2.1
  have HSx5a := Lib.hid Sx5a
  have Kx5a := Lib.hid (Held.ofS Sx5a)
  clear Sx5a
  have hlx7a : x7a.length ≤ cx7a := Sx7a.1
  have hmx7a := le63 Sx7a.2.1
  have HSx7a := Lib.hid Sx7a
  have Kx7a := Lib.hid (Held.ofS Sx7a)
  clear Sx7a
  clear gx8a
  clear gx9a
  have hlx10a : x10a.length ≤ cx10a := Sx10a.1
  have hmx10a := le63 Sx10a.2.1
  have HSx10a := Lib.hid Sx10a
  have Kx10a := Lib.hid (Held.ofS Sx10a)
  clear Sx10a
  clear gx13a
  clear gx15a
  clear gx16a
  clear ix17a
  change Calls Try.prog 28 #[.agg #[.bool x1a, .int .i64 x2a, .int .i64 x3a, .int .i64 x4a, .slice Ax5a x5a.length cx5a, .bool x6a, .slice Ax7a x7a.length cx7a, .string x8a, .string x9a, .slice Ax10a x10a.length cx10a, .bool x11a, .bool x12a, .string x13a, .bool x14a, .string x15a, .string x16a, .int .i64 x17a]] w _
  have hany : ∀ m, x10a.any (noteT m true) = decide (0 ≤ idxL (noteT m true) x10a) := fun m => by
    rw [Bool.eq_iff_iff]
    simp only [decide_eq_true_eq]
    exact (idxL_ge x10a).symm
  have HANY := Lib.hid hany
  clear hany
  cases hm : mayTell ((x1a, x2a, x3a, x4a, x5a, (x6a, x7a), x8a, x9a, (x10a, x11a, x12a), (x13a, x14a), (x15a, x16a), x17a) : GSession)
  all_goals
    have HM := Lib.hid hm
    clear hm
    go_enter Try.func28, Try.ntmps28
    go_wp2_with (first | (go_at_call 24; refine (s_MayTell _ ((x1a, x2a, x3a, x4a, x5a, (x6a, x7a), x8a, x9a, (x10a, x11a, x12a), (x13a, x14a), (x15a, x16a), x17a) : GSession) _ (by repeat (first | exact Ra.out | with_reducible refine held_alloc ?_ _ | with_reducible refine held_ext ?_ _ _))).mono ?_; rintro e _ ⟨rfl, E1, d1, rfl⟩; rw [HM.out]) | (go_at_call 100; refine (s_FirstNote _ (x10a, _, _) _ (held_queue (by repeat (first | exact Kx10a.out | with_reducible refine held_alloc ?_ _ | with_reducible refine held_ext ?_ _ _)) _ _) _ _).mono ?_; rintro e _ ⟨rfl, E2, d2, rfl⟩))
    all_goals
      go_ret
      exact RV.mk (ret_bool (by have h1 := HM.out; have h2 := HANY.out; simp_all [pending])) (by repeat (first | exact Below.refl _ _ | refine bl_al ?_ _ | refine bl_ext ?_ _ _ | refine Below.drew ?_ | assumption | refine bl_tr ?_ (by assumption)))
end Go.Proofs.Ytigakalkkaoflaa
