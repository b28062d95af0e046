/-
  Contracts of MayTell, FirstNote, Pending, of the program and the reference.
  No condition but what the arguments' cells hold. Printed by gf_tell.py.
-/
import Derived.Test.YtigakalkkaoflaaSl
namespace Go.Proofs.Ytigakalkkaoflaa
open Go.ChangeShapes Go.WideShapes Go.ChangeAt Go.RowKit Go.Joins Go.Deep
open GoRep (rep bulk)
open GoMark (mrk cnt mrkI cntI)

theorem isEmpty_size (t : ByteArray) : (t.toList = []) = (t.size = 0) := by
  rw [eq_iff_iff, ← List.length_eq_zero_iff]
  have e : t.toList = t.data.toList := ByteArray.toList_eq t
  rw [e]
  rfl
/-- a scope of the selected box that asks for new, gone and flags -/
def tellS (x : GScope) : Bool := x.1 == 1 && bits .and .i64 x.2.2 7 == 7
def asked (f : GFilter) : Bool := f.1 && f.2.any tellS
def mayTell : GSession → Bool
  | (live, st, _, _, _, f, idle, wait, _) => live && st == 3 && (!(idle.size == 0) || !(wait.size == 0) || asked f)
set_option maxRecDepth 100000 in
set_option maxHeartbeats 800000 in
theorem i_MayTell_1 (w : World) (a : GScope) (ca : List Value) (ha : Held w a ca) :
    Calls Try.prog 97 #[.agg ca.toArray] w (RV (.bool (tellS a)) w) := by
  have Ra := Lib.hid ha
  obtain ⟨Fa, ha⟩ := ha
  obtain ⟨x1a, x2a, x3a⟩ := a
  obtain ⟨_, _, _, _, qx1a, ha', rfl, rfl⟩ := ha
  obtain ⟨rfl, ix1a, rfl⟩ := qx1a
  obtain ⟨_, _, _, _, qx2a, ha'', rfl, rfl⟩ := ha'
  have Rx2a := Lib.hid (Held.mk qx2a)
  obtain ⟨Ax2a, cx2a, rfl, Sx2a⟩ := qx2a
  obtain ⟨rfl, ix3a, rfl⟩ := ha''
  clear ix1a
  have hlx2a : x2a.length ≤ cx2a := Sx2a.1
  have hmx2a := le63 Sx2a.2.1
  have HSx2a := Lib.hid Sx2a
  have Kx2a := Lib.hid (Held.ofS Sx2a)
  clear Sx2a
  clear ix3a
  change Calls Try.prog 97 #[.agg #[.int .i64 x1a, .slice Ax2a x2a.length cx2a, .int .i64 x3a]] w _
  go_enter Try.func97, Try.ntmps97
  go_wp2
  all_goals
    go_ret
    exact RV.mk (ret_bool (by (try simp_all [tellS]) <;> (try (rw [Bool.eq_iff_iff]; simp)))) (by repeat (first | exact Below.refl _ _ | refine bl_al ?_ _ | refine bl_ext ?_ _ _ | refine Below.drew ?_ | assumption | refine bl_tr ?_ (by assumption)))
set_option maxRecDepth 100000 in
set_option maxHeartbeats 4000000 in
theorem i_MayTell (w : World) (a : GSession) (ca : List Value) (ha : Held w a ca) :
    Calls Try.prog 26 #[.agg ca.toArray] w (RV (.bool (mayTell a)) w) := by
  have Ra := Lib.hid ha
  obtain ⟨Fa, ha⟩ := ha
  obtain ⟨x1a, x2a, x3a, x4a, x5a, ⟨x6a, x7a⟩, x8a, x9a, ⟨x10a, x11a, x12a⟩, ⟨x13a, x14a⟩, ⟨x15a, x16a⟩, x17a⟩ := a
  obtain ⟨_, _, _, _, qx1a, ha', rfl, rfl⟩ := ha
  obtain ⟨rfl, rfl⟩ := qx1a
  obtain ⟨_, _, _, _, qx2a, ha'', rfl, rfl⟩ := ha'
  obtain ⟨rfl, ix2a, rfl⟩ := qx2a
  obtain ⟨_, _, _, _, qx3a, ha''', rfl, rfl⟩ := ha''
  obtain ⟨rfl, ix3a, rfl⟩ := qx3a
  obtain ⟨_, _, _, _, qx4a, ha'''', rfl, rfl⟩ := ha'''
  obtain ⟨rfl, ix4a, rfl⟩ := qx4a
  obtain ⟨_, _, _, _, qView_x5a, ha''''', rfl, rfl⟩ := ha''''
  have RView_x5a := Lib.hid (Held.mk qView_x5a)
  obtain ⟨Ax5a, cx5a, rfl, Sx5a⟩ := qView_x5a
  obtain ⟨_, _, _, _, qFilter_x6a, ha'''''', rfl, rfl⟩ := ha'''''
  have RFilter_x6a := Lib.hid (Held.mk qFilter_x6a)
  obtain ⟨_, _, _, _, ⟨rfl, rfl⟩, ⟨Ax7a, cx7a, rfl, Sx7a⟩, rfl, rfl⟩ := qFilter_x6a
  obtain ⟨_, _, _, _, qx8a, ha''''''', rfl, rfl⟩ := ha''''''
  obtain ⟨rfl, gx8a, rfl⟩ := qx8a
  obtain ⟨_, _, _, _, qx9a, ha'''''''', rfl, rfl⟩ := ha'''''''
  obtain ⟨rfl, gx9a, rfl⟩ := qx9a
  obtain ⟨_, _, _, _, qQueue_x10a, ha''''''''', rfl, rfl⟩ := ha''''''''
  have RQueue_x10a := Lib.hid (Held.mk qQueue_x10a)
  obtain ⟨_, _, _, _, ⟨Ax10a, cx10a, rfl, Sx10a⟩, ⟨_, _, _, _, ⟨rfl, rfl⟩, ⟨rfl, rfl⟩, rfl, rfl⟩, rfl, rfl⟩ := qQueue_x10a
  obtain ⟨_, _, _, _, qIn_x13a, ha'''''''''', rfl, rfl⟩ := ha'''''''''
  have RIn_x13a := Lib.hid (Held.mk qIn_x13a)
  obtain ⟨_, _, _, _, ⟨rfl, gx13a, rfl⟩, ⟨rfl, rfl⟩, rfl, rfl⟩ := qIn_x13a
  obtain ⟨_, _, _, _, qOut_x15a, ha''''''''''', rfl, rfl⟩ := ha''''''''''
  have ROut_x15a := Lib.hid (Held.mk qOut_x15a)
  obtain ⟨_, _, _, _, ⟨rfl, gx15a, rfl⟩, ⟨rfl, gx16a, rfl⟩, rfl, rfl⟩ := qOut_x15a
  obtain ⟨rfl, ix17a, rfl⟩ := ha'''''''''''
  have hsx8a : x8a.size ≤ 9223372036854775807 := le63 gx8a
  have hsx9a : x9a.size ≤ 9223372036854775807 := le63 gx9a
  have hsx13a : x13a.size ≤ 9223372036854775807 := le63 gx13a
  have hsx15a : x15a.size ≤ 9223372036854775807 := le63 gx15a
  have hsx16a : x16a.size ≤ 9223372036854775807 := le63 gx16a
  clear ix2a
  clear ix3a
  clear ix4a
  have hlx5a : x5a.length ≤ cx5a := Sx5a.1
  have hmx5a := le63 Sx5a.2.1
  have HSx5a := Lib.hid Sx5a
  have Kx5a := Lib.hid (Held.ofS Sx5a)
  clear Sx5a
  have hlx7a : x7a.length ≤ cx7a := Sx7a.1
  have hmx7a := le63 Sx7a.2.1
  have HSx7a := Lib.hid Sx7a
  have Kx7a := Lib.hid (Held.ofS Sx7a)
  clear Sx7a
  clear gx8a
  clear gx9a
  have hlx10a : x10a.length ≤ cx10a := Sx10a.1
  have hmx10a := le63 Sx10a.2.1
  have HSx10a := Lib.hid Sx10a
  have Kx10a := Lib.hid (Held.ofS Sx10a)
  clear Sx10a
  clear gx13a
  clear gx15a
  clear gx16a
  clear ix17a
  change Calls Try.prog 26 #[.agg #[.bool x1a, .int .i64 x2a, .int .i64 x3a, .int .i64 x4a, .slice Ax5a x5a.length cx5a, .bool x6a, .slice Ax7a x7a.length cx7a, .string x8a, .string x9a, .slice Ax10a x10a.length cx10a, .bool x11a, .bool x12a, .string x13a, .bool x14a, .string x15a, .string x16a, .int .i64 x17a]] w _
  cases hany : x7a.any tellS
  all_goals
    have HANY := Lib.hid hany
    go_enter Try.func26, Try.ntmps26
    go_wp2_with (first | (go_at_call 96; refine (ContainsFunc_Scope tellS 97 #[] x7a _ _ (by repeat (first | exact Kx7a.out | with_reducible refine held_alloc ?_ _ | with_reducible refine held_ext ?_ _ _)) ⟨Try.call97, fun W _ x cs hx => i_MayTell_1 W x cs hx⟩).mono ?_; rintro e _ ⟨rfl, E1, d1, rfl⟩))
    all_goals
      go_ret
      exact RV.mk (ret_bool (by (try simp_all [mayTell, asked, isEmpty_size]) <;> (try (rw [Bool.eq_iff_iff]; simp)))) (by repeat (first | exact Below.refl _ _ | refine bl_al ?_ _ | refine bl_ext ?_ _ _ | refine Below.drew ?_ | assumption | refine bl_tr ?_ (by assumption)))
set_option maxRecDepth 100000 in
set_option maxHeartbeats 2000000 in
theorem s_MayTell (w : World) (a : GSession) (ca : List Value) (ha : Held w a ca) :
    Calls Try.prog 24 #[.agg ca.toArray] w (RV (.bool (mayTell a)) w) := by
  have Ra := Lib.hid ha
  obtain ⟨Fa, ha⟩ := ha
  obtain ⟨x1a, x2a, x3a, x4a, x5a, ⟨x6a, x7a⟩, x8a, x9a, ⟨x10a, x11a, x12a⟩, ⟨x13a, x14a⟩, ⟨x15a, x16a⟩, x17a⟩ := a
  obtain ⟨_, _, _, _, qx1a, ha', rfl, rfl⟩ := ha
  obtain ⟨rfl, rfl⟩ := qx1a
  obtain ⟨_, _, _, _, qx2a, ha'', rfl, rfl⟩ := ha'
  obtain ⟨rfl, ix2a, rfl⟩ := qx2a
  obtain ⟨_, _, _, _, qx3a, ha''', rfl, rfl⟩ := ha''
  obtain ⟨rfl, ix3a, rfl⟩ := qx3a
  obtain ⟨_, _, _, _, qx4a, ha'''', rfl, rfl⟩ := ha'''
  obtain ⟨rfl, ix4a, rfl⟩ := qx4a
  obtain ⟨_, _, _, _, qView_x5a, ha''''', rfl, rfl⟩ := ha''''
  have RView_x5a := Lib.hid (Held.mk qView_x5a)
  obtain ⟨Ax5a, cx5a, rfl, Sx5a⟩ := qView_x5a
  obtain ⟨_, _, _, _, qFilter_x6a, ha'''''', rfl, rfl⟩ := ha'''''
  have RFilter_x6a := Lib.hid (Held.mk qFilter_x6a)
  obtain ⟨_, _, _, _, ⟨rfl, rfl⟩, ⟨Ax7a, cx7a, rfl, Sx7a⟩, rfl, rfl⟩ := qFilter_x6a
  obtain ⟨_, _, _, _, qx8a, ha''''''', rfl, rfl⟩ := ha''''''
  obtain ⟨rfl, gx8a, rfl⟩ := qx8a
  obtain ⟨_, _, _, _, qx9a, ha'''''''', rfl, rfl⟩ := ha'''''''
  obtain ⟨rfl, gx9a, rfl⟩ := qx9a
  obtain ⟨_, _, _, _, qQueue_x10a, ha''''''''', rfl, rfl⟩ := ha''''''''
  have RQueue_x10a := Lib.hid (Held.mk qQueue_x10a)
  obtain ⟨_, _, _, _, ⟨Ax10a, cx10a, rfl, Sx10a⟩, ⟨_, _, _, _, ⟨rfl, rfl⟩, ⟨rfl, rfl⟩, rfl, rfl⟩, rfl, rfl⟩ := qQueue_x10a
  obtain ⟨_, _, _, _, qIn_x13a, ha'''''''''', rfl, rfl⟩ := ha'''''''''
  have RIn_x13a := Lib.hid (Held.mk qIn_x13a)
  obtain ⟨_, _, _, _, ⟨rfl, gx13a, rfl⟩, ⟨rfl, rfl⟩, rfl, rfl⟩ := qIn_x13a
  obtain ⟨_, _, _, _, qOut_x15a, ha''''''''''', rfl, rfl⟩ := ha''''''''''
  have ROut_x15a := Lib.hid (Held.mk qOut_x15a)
  obtain ⟨_, _, _, _, ⟨rfl, gx15a, rfl⟩, ⟨rfl, gx16a, rfl⟩, rfl, rfl⟩ := qOut_x15a
  obtain ⟨rfl, ix17a, rfl⟩ := ha'''''''''''
  have hsx8a : x8a.size ≤ 9223372036854775807 := le63 gx8a
  have hsx9a : x9a.size ≤ 9223372036854775807 := le63 gx9a
  have hsx13a : x13a.size ≤ 9223372036854775807 := le63 gx13a
  have hsx15a : x15a.size ≤ 9223372036854775807 := le63 gx15a
  have hsx16a : x16a.size ≤ 9223372036854775807 := le63 gx16a
  clear ix2a
  clear ix3a
  clear ix4a
  have hlx5a : x5a.length ≤ cx5a := Sx5a.1
  have hmx5a := le63 Sx5a.2.1
  have HSx5a := Lib.hid Sx5a
  have Kx5a := Lib.hid (Held.ofS Sx5a)
  clear Sx5a
  have hlx7a : x7a.length ≤ cx7a := Sx7a.1
  have hmx7a := le63 Sx7a.2.1
  have HSx7a := Lib.hid Sx7a
  have Kx7a := Lib.hid (Held.ofS Sx7a)
  clear Sx7a
  clear gx8a
  clear gx9a
  have hlx10a : x10a.length ≤ cx10a := Sx10a.1
  have hmx10a := le63 Sx10a.2.1
  have HSx10a := Lib.hid Sx10a
  have Kx10a := Lib.hid (Held.ofS Sx10a)
  clear Sx10a
  clear gx13a
  clear gx15a
  clear gx16a
  clear ix17a
  change Calls Try.prog 24 #[.agg #[.bool x1a, .int .i64 x2a, .int .i64 x3a, .int .i64 x4a, .slice Ax5a x5a.length cx5a, .bool x6a, .slice Ax7a x7a.length cx7a, .string x8a, .string x9a, .slice Ax10a x10a.length cx10a, .bool x11a, .bool x12a, .string x13a, .bool x14a, .string x15a, .string x16a, .int .i64 x17a]] w _
  by_cases hq : x1a = true ∧ x2a = 3 ∧ x8a.toList = [] ∧ x9a.toList = []
  · obtain ⟨h1, h2, h8, h9⟩ := hq
    subst h1
    subst h2
    cases x6a
    · go_enter Try.func24, Try.ntmps24
      go_wp2
      go_loopw [3] (fun i wr => i = .int .i64 0 ∧ wr = (w.alloc (.cells #[.bool true, .int .i64 3, .int .i64 x3a, .int .i64 x4a, .slice Ax5a x5a.length cx5a, .bool false, .slice Ax7a x7a.length cx7a, .string x8a, .string x9a, .slice Ax10a x10a.length cx10a, .bool x11a, .bool x12a, .string x13a, .bool x14a, .string x15a, .string x16a, .int .i64 x17a] 68))) (fun _ _ => 0)
      case atStart => exact ⟨rfl, rfl⟩
      case round =>
        obtain ⟨rfl, rfl⟩ := hrel
        go_wp2
        all_goals
          go_ret
          exact RV.mk (ret_bool (by simp_all [mayTell, asked, isEmpty_size])) (by repeat (first | exact Below.refl _ _ | refine bl_al ?_ _ | refine bl_ext ?_ _ _ | refine Below.drew ?_ | assumption | refine bl_tr ?_ (by assumption)))
    · go_enter Try.func24, Try.ntmps24
      go_wp2
      go_loopw [3] (fun i wr => ∃ (k : Nat) (E : Array Obj) (d : Nat), k ≤ x7a.length ∧ Hid ((x7a.take k).any tellS = false) ∧ i = .int .i64 k ∧ wr = ext (w.alloc (.cells #[.bool true, .int .i64 3, .int .i64 x3a, .int .i64 x4a, .slice Ax5a x5a.length cx5a, .bool true, .slice Ax7a x7a.length cx7a, .string x8a, .string x9a, .slice Ax10a x10a.length cx10a, .bool x11a, .bool x12a, .string x13a, .bool x14a, .string x15a, .string x16a, .int .i64 x17a] 68)) E d) (fun i _ => x7a.length - (intOf i).toNat)
      case atStart => exact ⟨0, #[], (w.alloc (.cells #[.bool true, .int .i64 3, .int .i64 x3a, .int .i64 x4a, .slice Ax5a x5a.length cx5a, .bool true, .slice Ax7a x7a.length cx7a, .string x8a, .string x9a, .slice Ax10a x10a.length cx10a, .bool x11a, .bool x12a, .string x13a, .bool x14a, .string x15a, .string x16a, .int .i64 x17a] 68)).drawn, by omega, Lib.hid rfl, rfl, by first | rfl | simp [ext]⟩
      case round =>
        obtain ⟨k, E, d, hk, HA, rfl, rfl⟩ := hrel
        by_cases hlt : k < x7a.length
        · skip
          obtain ⟨bx7a, offx7a, xx7a, csx7a, Gkx7a, rfl, hxx7a, hrx7a, _, _, hbx7a, hCx7a⟩ := HSx7a.out.at_ hlt
          have HRx7a := Lib.hid (Held.mk hrx7a)
          obtain ⟨x1x7a, x2x7a, x3x7a⟩ := xx7a
          have HXx7a := Lib.hid hxx7a
          clear hxx7a
          obtain ⟨_, _, _, _, ⟨rfl, _, rfl⟩, ⟨_, _, _, _, ⟨Ax2x7a, cx2x7a, rfl, _⟩, ⟨rfl, _, rfl⟩, rfl, rfl⟩, rfl, rfl⟩ := hrx7a
          have k0x7a : w.cell? ⟨bx7a, offx7a + k * 3, none⟩ = some (.int .i64 x1x7a) := (hCx7a 0 _ rfl).1
          have k1x7a : w.cell? ⟨bx7a, offx7a + k * 3 + 1, none⟩ = some (.slice Ax2x7a x2x7a.length cx2x7a) := (hCx7a 1 _ rfl).1
          have k2x7a : w.cell? ⟨bx7a, offx7a + k * 3 + 2, none⟩ = some (.int .i64 x3x7a) := (hCx7a 2 _ rfl).1
          clear hCx7a
          by_cases hpx : tellS (x1x7a, x2x7a, x3x7a) = true
          · have HF := Lib.hid (any_at HXx7a.out hpx)
            have HI := Lib.hid (idxL_at HA.out HXx7a.out hpx)
            have HPX := Lib.hid hpx
            clear hpx
            have h := HPX.out
            simp only [tellS, Bool.and_eq_true, beq_iff_eq] at h
            obtain ⟨h1, h2⟩ := h
            go_wp2
            go_ret
            exact RV.mk (ret_bool (by have := HF.out; simp_all [mayTell, asked, isEmpty_size])) (by repeat (first | exact Below.refl _ _ | refine bl_al ?_ _ | refine bl_ext ?_ _ _ | refine Below.drew ?_ | assumption | refine bl_tr ?_ (by assumption)))
          · have hpx := Bool.eq_false_iff.2 hpx
            have HPX := Lib.hid hpx
            clear hpx
            have h := HPX.out
            by_cases h1 : x1x7a = 1
            · have h2 : (bits .and .i64 x3x7a 7 == 7) = false := by simpa [tellS, h1] using h
              clear h
              go_wp2
              go_roundw
              case rel => exact ⟨k + 1, _, _, by omega, Lib.hid (any_snoc HA.out HXx7a.out HPX.out), by go_num, by (try simp only [drew_ext, drewN_ext, ext_ext, ext_alloc]); rfl⟩
              case measure => simp [intOf]; omega
            · have h2 : (x1x7a == 1) = false := by simpa using h1
              clear h h1
              go_wp2
              go_roundw
              case rel => exact ⟨k + 1, _, _, by omega, Lib.hid (any_snoc HA.out HXx7a.out HPX.out), by go_num, by (try simp only [drew_ext, drewN_ext, ext_ext, ext_alloc]); rfl⟩
              case measure => simp [intOf]; omega
        · have HF := Lib.hid (show x7a.any tellS = false by have := HA.out; rwa [List.take_of_length_le (Nat.le_of_not_lt hlt)] at this)
          go_wp2
          go_ret
          exact RV.mk (ret_bool (by have := HF.out; simp_all [mayTell, asked, isEmpty_size])) (by repeat (first | exact Below.refl _ _ | refine bl_al ?_ _ | refine bl_ext ?_ _ _ | refine Below.drew ?_ | assumption | refine bl_tr ?_ (by assumption)))
  · go_enter Try.func24, Try.ntmps24
    go_wp2
    all_goals first | (exfalso; simp_all; done) | (go_ret; exact RV.mk (ret_bool (by (try simp_all [mayTell, isEmpty_size]) <;> (try (rw [Bool.eq_iff_iff]; simp)))) (by repeat (first | exact Below.refl _ _ | refine bl_al ?_ _ | refine bl_ext ?_ _ _ | refine Below.drew ?_ | assumption | refine bl_tr ?_ (by assumption))))
end Go.Proofs.Ytigakalkkaoflaa
