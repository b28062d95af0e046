/-
  Contracts of the laws' functions eqX at two values that hold the same.
  No condition but what the arguments' cells hold. Printed by gen_types.py.
-/
import Derived.Test.YtigakalkkaoflaaTypes
namespace Go.Proofs.Ytigakalkkaoflaa
open Go.ChangeShapes Go.WideShapes Go.ChangeAt Go.RowKit Go.Joins Go.Deep
open GoRep (rep bulk)
open GoMark (mrk cnt mrkI cntI)

set_option maxRecDepth 100000 in
set_option maxHeartbeats 1000000 in
theorem l_eqStringS (xs : (List ByteArray)) (v u : Value) (w : World) (h : Held w xs [v]) (k : Held w xs [u]) :
    Calls Try.prog 244 #[v, u] w (RV (.bool true) w) := by
  obtain ⟨F, A, c, e, S⟩ := h
  obtain rfl : v = .slice A xs.length c := by simpa using e
  have hl : xs.length ≤ c := S.1
  have hm := le63 S.2.1
  have HS := Lib.hid S
  clear S e
  obtain ⟨F', A', c', e, S⟩ := k
  obtain rfl : u = .slice A' xs.length c' := by simpa using e
  have HS' := Lib.hid S
  clear S e
  go_enter Try.func244, Try.ntmps244
  go_wp2
  go_loopw [5] (fun i wr => ∃ (k : Nat) (E : Array Obj) (d : Nat), k ≤ xs.length ∧ i = .int .i64 k ∧ wr = ext w E d) (fun i _ => xs.length - (intOf i).toNat)
  case atStart => exact ⟨0, #[], w.drawn, by omega, rfl, by simp [ext]⟩
  case round =>
    obtain ⟨k, E, d, hk, rfl, rfl⟩ := hrel
    by_cases hlt : k < xs.length
    · obtain ⟨b, off, x, cs, Gk, rfl, hx, hr, _, _, hb, hC⟩ := HS.out.at_ hlt
      obtain ⟨b', off', x', cs', Gk', rfl, hx', hr', _, _, hb', hC'⟩ := HS'.out.at_ hlt
      have ex : x = x' := by rw [hx] at hx'; exact Option.some.inj hx'
      clear hx hx'
      subst ex
      have _ := hb'
      · skip
        have c0 : w.cell? ⟨b, off + k, none⟩ = some (.string x) := by
          obtain ⟨rfl, _⟩ := hr
          have := (hC 0 _ rfl).1
          rwa [show off + k * GoRep.n ByteArray + 0 = off + k from by show off + k * 1 + 0 = off + k; omega] at this
        have c1 : w.cell? ⟨b', off' + k, none⟩ = some (.string x) := by
          obtain ⟨rfl, _⟩ := hr'
          have := (hC' 0 _ rfl).1
          rwa [show off' + k * GoRep.n ByteArray + 0 = off' + k from by show off' + k * 1 + 0 = off' + k; omega] at this
        clear hC hC' hr hr'
        go_wp2_with go_region
        go_roundw
        case rel => exact ⟨k + 1, E, d + 1, by omega, by go_num, rfl⟩
        case measure => simp [intOf]; omega
    · go_wp2
      go_ret
      exact RV.mk rfl (by repeat (first | exact Below.refl _ _ | refine bl_al ?_ _ | refine bl_ext ?_ _ _ | refine Below.drew ?_ | assumption | refine bl_tr ?_ (by assumption)))

set_option maxRecDepth 100000 in
set_option maxHeartbeats 1000000 in
theorem l_eqIntS (xs : (List Int)) (v u : Value) (w : World) (h : Held w xs [v]) (k : Held w xs [u]) :
    Calls Try.prog 49 #[v, u] w (RV (.bool true) w) := by
  obtain ⟨F, A, c, e, S⟩ := h
  obtain rfl : v = .slice A xs.length c := by simpa using e
  have hl : xs.length ≤ c := S.1
  have hm := le63 S.2.1
  have HS := Lib.hid S
  clear S e
  obtain ⟨F', A', c', e, S⟩ := k
  obtain rfl : u = .slice A' xs.length c' := by simpa using e
  have HS' := Lib.hid S
  clear S e
  go_enter Try.func49, Try.ntmps49
  go_wp2
  go_loopw [5] (fun i wr => ∃ (k : Nat) (E : Array Obj) (d : Nat), k ≤ xs.length ∧ i = .int .i64 k ∧ wr = ext w E d) (fun i _ => xs.length - (intOf i).toNat)
  case atStart => exact ⟨0, #[], w.drawn, by omega, rfl, by simp [ext]⟩
  case round =>
    obtain ⟨k, E, d, hk, rfl, rfl⟩ := hrel
    by_cases hlt : k < xs.length
    · obtain ⟨b, off, x, cs, Gk, rfl, hx, hr, _, _, hb, hC⟩ := HS.out.at_ hlt
      obtain ⟨b', off', x', cs', Gk', rfl, hx', hr', _, _, hb', hC'⟩ := HS'.out.at_ hlt
      have ex : x = x' := by rw [hx] at hx'; exact Option.some.inj hx'
      clear hx hx'
      subst ex
      have _ := hb'
      · skip
        have c0 : w.cell? ⟨b, off + k, none⟩ = some (.int .i64 x) := by
          obtain ⟨rfl, _⟩ := hr
          have := (hC 0 _ rfl).1
          rwa [show off + k * GoRep.n Int + 0 = off + k from by show off + k * 1 + 0 = off + k; omega] at this
        have c1 : w.cell? ⟨b', off' + k, none⟩ = some (.int .i64 x) := by
          obtain ⟨rfl, _⟩ := hr'
          have := (hC' 0 _ rfl).1
          rwa [show off' + k * GoRep.n Int + 0 = off' + k from by show off' + k * 1 + 0 = off' + k; omega] at this
        clear hC hC' hr hr'
        go_wp2_with go_region
        go_roundw
        case rel => exact ⟨k + 1, E, d + 1, by omega, by go_num, rfl⟩
        case measure => simp [intOf]; omega
    · go_wp2
      go_ret
      exact RV.mk rfl (by repeat (first | exact Below.refl _ _ | refine bl_al ?_ _ | refine bl_ext ?_ _ _ | refine Below.drew ?_ | assumption | refine bl_tr ?_ (by assumption)))

set_option maxRecDepth 100000 in
set_option maxHeartbeats 2000000 in
theorem l_eqToken (x : GToken) (cs ds : List Value) (w : World) (h : Held w x cs) (k : Held w x ds) :
    Calls Try.prog 144 #[.agg cs.toArray, .agg ds.toArray] w (RV (.bool true) w) := by
  obtain ⟨F, h⟩ := h
  obtain ⟨F', k⟩ := k
  obtain ⟨x1, x2⟩ := x
  obtain ⟨_, _, _, _, qx1, h', rfl, rfl⟩ := h
  obtain ⟨rfl, ix1, rfl⟩ := qx1
  obtain ⟨rfl, gx2, rfl⟩ := h'
  obtain ⟨_, _, _, _, qx1, k', rfl, rfl⟩ := k
  obtain ⟨rfl, ix1, rfl⟩ := qx1
  obtain ⟨rfl, gx2, rfl⟩ := k'
  change Calls Try.prog 144 #[.agg #[.int .i64 x1, .string x2], .agg #[.int .i64 x1, .string x2]] w _
  clear ix1 gx2
  clear ix1 gx2
  go_enter Try.func144, Try.ntmps144
  go_wp2
  go_ret
  exact RV.mk rfl (by repeat (first | exact Below.refl _ _ | refine bl_al ?_ _ | refine bl_ext ?_ _ _ | refine Below.drew ?_ | assumption | refine bl_tr ?_ (by assumption)))

set_option maxRecDepth 100000 in
set_option maxHeartbeats 1000000 in
theorem l_eqTokenS (xs : (List GToken)) (v u : Value) (w : World) (h : Held w xs [v]) (k : Held w xs [u]) :
    Calls Try.prog 61 #[v, u] w (RV (.bool true) w) := by
  obtain ⟨F, A, c, e, S⟩ := h
  obtain rfl : v = .slice A xs.length c := by simpa using e
  have hl : xs.length ≤ c := S.1
  have hm := le63 S.2.1
  have HS := Lib.hid S
  clear S e
  obtain ⟨F', A', c', e, S⟩ := k
  obtain rfl : u = .slice A' xs.length c' := by simpa using e
  have HS' := Lib.hid S
  clear S e
  go_enter Try.func61, Try.ntmps61
  go_wp2
  go_loopw [5] (fun i wr => ∃ (k : Nat) (E : Array Obj) (d : Nat), k ≤ xs.length ∧ i = .int .i64 k ∧ wr = ext w E d) (fun i _ => xs.length - (intOf i).toNat)
  case atStart => exact ⟨0, #[], w.drawn, by omega, rfl, by simp [ext]⟩
  case round =>
    obtain ⟨k, E, d, hk, rfl, rfl⟩ := hrel
    by_cases hlt : k < xs.length
    · obtain ⟨b, off, x, cs, Gk, rfl, hx, hr, _, _, hb, hC⟩ := HS.out.at_ hlt
      obtain ⟨b', off', x', cs', Gk', rfl, hx', hr', _, _, hb', hC'⟩ := HS'.out.at_ hlt
      have ex : x = x' := by rw [hx] at hx'; exact Option.some.inj hx'
      clear hx hx'
      subst ex
      have _ := hb'
      · skip
        have HR := Lib.hid (Held.mk hr)
        have HR' := Lib.hid (Held.mk hr')
        obtain ⟨x1, x2⟩ := x
        obtain ⟨_, _, _, _, qx1, hr', rfl, rfl⟩ := hr
        obtain ⟨rfl, ix1, rfl⟩ := qx1
        obtain ⟨rfl, gx2, rfl⟩ := hr'
        obtain ⟨_, _, _, _, qx1, hr'', rfl, rfl⟩ := hr'
        obtain ⟨rfl, ix1, rfl⟩ := qx1
        obtain ⟨rfl, gx2, rfl⟩ := hr''
        have p0 : w.cell? ⟨b, off + k * 2, none⟩ = some (.int .i64 x1) := (hC 0 _ rfl).1
        have p1 : w.cell? ⟨b, off + k * 2 + 1, none⟩ = some (.string x2) := (hC 1 _ rfl).1
        have q0 : w.cell? ⟨b', off' + k * 2, none⟩ = some (.int .i64 x1) := (hC' 0 _ rfl).1
        have q1 : w.cell? ⟨b', off' + k * 2 + 1, none⟩ = some (.string x2) := (hC' 1 _ rfl).1
        clear hC hC'
        go_wp2_with fail
        go_region_with (go_at_call 144; refine (l_eqToken (x1, x2) _ _ _ (by repeat (first | exact HR.out | with_reducible refine held_alloc ?_ _ | with_reducible refine held_ext ?_ _ _)) (by repeat (first | exact HR'.out | with_reducible refine held_alloc ?_ _ | with_reducible refine held_ext ?_ _ _))).mono ?_; rintro e _ ⟨rfl, E1, d1, rfl⟩)
        all_goals
          go_wp2
          go_roundw
          case rel => exact ⟨k + 1, E ++ E1, d1, by omega, by go_num, ext_ext _ _ _ _ _⟩
          case measure => simp [intOf]; omega
    · go_wp2
      go_ret
      exact RV.mk rfl (by repeat (first | exact Below.refl _ _ | refine bl_al ?_ _ | refine bl_ext ?_ _ _ | refine Below.drew ?_ | assumption | refine bl_tr ?_ (by assumption)))

set_option maxRecDepth 100000 in
set_option maxHeartbeats 2000000 in
theorem l_eqSpan (x : GSpan) (cs ds : List Value) (w : World) (h : Held w x cs) (k : Held w x ds) :
    Calls Try.prog 200 #[.agg cs.toArray, .agg ds.toArray] w (RV (.bool true) w) := by
  obtain ⟨F, h⟩ := h
  obtain ⟨F', k⟩ := k
  obtain ⟨x1, x2⟩ := x
  obtain ⟨_, _, _, _, qx1, h', rfl, rfl⟩ := h
  obtain ⟨rfl, ix1, rfl⟩ := qx1
  obtain ⟨rfl, ix2, rfl⟩ := h'
  obtain ⟨_, _, _, _, qx1, k', rfl, rfl⟩ := k
  obtain ⟨rfl, ix1, rfl⟩ := qx1
  obtain ⟨rfl, ix2, rfl⟩ := k'
  change Calls Try.prog 200 #[.agg #[.int .i64 x1, .int .i64 x2], .agg #[.int .i64 x1, .int .i64 x2]] w _
  clear ix1 ix2
  clear ix1 ix2
  go_enter Try.func200, Try.ntmps200
  go_wp2
  go_ret
  exact RV.mk rfl (by repeat (first | exact Below.refl _ _ | refine bl_al ?_ _ | refine bl_ext ?_ _ _ | refine Below.drew ?_ | assumption | refine bl_tr ?_ (by assumption)))

set_option maxRecDepth 100000 in
set_option maxHeartbeats 1000000 in
theorem l_eqSpanS (xs : (List GSpan)) (v u : Value) (w : World) (h : Held w xs [v]) (k : Held w xs [u]) :
    Calls Try.prog 126 #[v, u] w (RV (.bool true) w) := by
  obtain ⟨F, A, c, e, S⟩ := h
  obtain rfl : v = .slice A xs.length c := by simpa using e
  have hl : xs.length ≤ c := S.1
  have hm := le63 S.2.1
  have HS := Lib.hid S
  clear S e
  obtain ⟨F', A', c', e, S⟩ := k
  obtain rfl : u = .slice A' xs.length c' := by simpa using e
  have HS' := Lib.hid S
  clear S e
  go_enter Try.func126, Try.ntmps126
  go_wp2
  go_loopw [5] (fun i wr => ∃ (k : Nat) (E : Array Obj) (d : Nat), k ≤ xs.length ∧ i = .int .i64 k ∧ wr = ext w E d) (fun i _ => xs.length - (intOf i).toNat)
  case atStart => exact ⟨0, #[], w.drawn, by omega, rfl, by simp [ext]⟩
  case round =>
    obtain ⟨k, E, d, hk, rfl, rfl⟩ := hrel
    by_cases hlt : k < xs.length
    · obtain ⟨b, off, x, cs, Gk, rfl, hx, hr, _, _, hb, hC⟩ := HS.out.at_ hlt
      obtain ⟨b', off', x', cs', Gk', rfl, hx', hr', _, _, hb', hC'⟩ := HS'.out.at_ hlt
      have ex : x = x' := by rw [hx] at hx'; exact Option.some.inj hx'
      clear hx hx'
      subst ex
      have _ := hb'
      · skip
        have HR := Lib.hid (Held.mk hr)
        have HR' := Lib.hid (Held.mk hr')
        obtain ⟨x1, x2⟩ := x
        obtain ⟨_, _, _, _, qx1, hr', rfl, rfl⟩ := hr
        obtain ⟨rfl, ix1, rfl⟩ := qx1
        obtain ⟨rfl, ix2, rfl⟩ := hr'
        obtain ⟨_, _, _, _, qx1, hr'', rfl, rfl⟩ := hr'
        obtain ⟨rfl, ix1, rfl⟩ := qx1
        obtain ⟨rfl, ix2, rfl⟩ := hr''
        have p0 : w.cell? ⟨b, off + k * 2, none⟩ = some (.int .i64 x1) := (hC 0 _ rfl).1
        have p1 : w.cell? ⟨b, off + k * 2 + 1, none⟩ = some (.int .i64 x2) := (hC 1 _ rfl).1
        have q0 : w.cell? ⟨b', off' + k * 2, none⟩ = some (.int .i64 x1) := (hC' 0 _ rfl).1
        have q1 : w.cell? ⟨b', off' + k * 2 + 1, none⟩ = some (.int .i64 x2) := (hC' 1 _ rfl).1
        clear hC hC'
        go_wp2_with fail
        go_region_with (go_at_call 200; refine (l_eqSpan (x1, x2) _ _ _ (by repeat (first | exact HR.out | with_reducible refine held_alloc ?_ _ | with_reducible refine held_ext ?_ _ _)) (by repeat (first | exact HR'.out | with_reducible refine held_alloc ?_ _ | with_reducible refine held_ext ?_ _ _))).mono ?_; rintro e _ ⟨rfl, E1, d1, rfl⟩)
        all_goals
          go_wp2
          go_roundw
          case rel => exact ⟨k + 1, E ++ E1, d1, by omega, by go_num, ext_ext _ _ _ _ _⟩
          case measure => simp [intOf]; omega
    · go_wp2
      go_ret
      exact RV.mk rfl (by repeat (first | exact Below.refl _ _ | refine bl_al ?_ _ | refine bl_ext ?_ _ _ | refine Below.drew ?_ | assumption | refine bl_tr ?_ (by assumption)))

set_option maxRecDepth 100000 in
set_option maxHeartbeats 2000000 in
theorem l_eqScope (x : GScope) (cs ds : List Value) (w : World) (h : Held w x cs) (k : Held w x ds) :
    Calls Try.prog 218 #[.agg cs.toArray, .agg ds.toArray] w (RV (.bool true) w) := by
  obtain ⟨F, h⟩ := h
  obtain ⟨F', k⟩ := k
  obtain ⟨x1, x2, x3⟩ := x
  obtain ⟨_, _, _, _, qx1, h', rfl, rfl⟩ := h
  obtain ⟨rfl, ix1, rfl⟩ := qx1
  obtain ⟨_, _, _, _, qx2, h'', rfl, rfl⟩ := h'
  have Rx2 := Lib.hid (Held.mk qx2)
  obtain ⟨Ax2, cx2, rfl, Sx2⟩ := qx2
  obtain ⟨rfl, ix3, rfl⟩ := h''
  obtain ⟨_, _, _, _, qx1, k', rfl, rfl⟩ := k
  obtain ⟨rfl, ix1, rfl⟩ := qx1
  obtain ⟨_, _, _, _, qx2, k'', rfl, rfl⟩ := k'
  have Rx2b := Lib.hid (Held.mk qx2)
  obtain ⟨Ax2b, cx2b, rfl, Sx2b⟩ := qx2
  obtain ⟨rfl, ix3, rfl⟩ := k''
  change Calls Try.prog 218 #[.agg #[.int .i64 x1, .slice Ax2 x2.length cx2, .int .i64 x3], .agg #[.int .i64 x1, .slice Ax2b x2.length cx2b, .int .i64 x3]] w _
  clear ix1 ix3
  clear ix1 ix3
  go_enter Try.func218, Try.ntmps218
  go_wp2_with (first | (go_at_call 244; refine (l_eqStringS x2 _ _ _ (by repeat (first | exact Rx2.out | with_reducible refine held_alloc ?_ _ | with_reducible refine held_ext ?_ _ _)) (by repeat (first | exact Rx2b.out | with_reducible refine held_alloc ?_ _ | with_reducible refine held_ext ?_ _ _))).mono ?_; rintro e _ ⟨rfl, Ex2, dx2, rfl⟩))
  go_ret
  exact RV.mk rfl (by repeat (first | exact Below.refl _ _ | refine bl_al ?_ _ | refine bl_ext ?_ _ _ | refine Below.drew ?_ | assumption | refine bl_tr ?_ (by assumption)))

set_option maxRecDepth 100000 in
set_option maxHeartbeats 1000000 in
theorem l_eqScopeS (xs : (List GScope)) (v u : Value) (w : World) (h : Held w xs [v]) (k : Held w xs [u]) :
    Calls Try.prog 143 #[v, u] w (RV (.bool true) w) := by
  obtain ⟨F, A, c, e, S⟩ := h
  obtain rfl : v = .slice A xs.length c := by simpa using e
  have hl : xs.length ≤ c := S.1
  have hm := le63 S.2.1
  have HS := Lib.hid S
  clear S e
  obtain ⟨F', A', c', e, S⟩ := k
  obtain rfl : u = .slice A' xs.length c' := by simpa using e
  have HS' := Lib.hid S
  clear S e
  go_enter Try.func143, Try.ntmps143
  go_wp2
  go_loopw [5] (fun i wr => ∃ (k : Nat) (E : Array Obj) (d : Nat), k ≤ xs.length ∧ i = .int .i64 k ∧ wr = ext w E d) (fun i _ => xs.length - (intOf i).toNat)
  case atStart => exact ⟨0, #[], w.drawn, by omega, rfl, by simp [ext]⟩
  case round =>
    obtain ⟨k, E, d, hk, rfl, rfl⟩ := hrel
    by_cases hlt : k < xs.length
    · obtain ⟨b, off, x, cs, Gk, rfl, hx, hr, _, _, hb, hC⟩ := HS.out.at_ hlt
      obtain ⟨b', off', x', cs', Gk', rfl, hx', hr', _, _, hb', hC'⟩ := HS'.out.at_ hlt
      have ex : x = x' := by rw [hx] at hx'; exact Option.some.inj hx'
      clear hx hx'
      subst ex
      have _ := hb'
      · skip
        have HR := Lib.hid (Held.mk hr)
        have HR' := Lib.hid (Held.mk hr')
        obtain ⟨x1, x2, x3⟩ := x
        obtain ⟨_, _, _, _, qx1, hr', rfl, rfl⟩ := hr
        obtain ⟨rfl, ix1, rfl⟩ := qx1
        obtain ⟨_, _, _, _, qx2, hr'', rfl, rfl⟩ := hr'
        have Rx2 := Lib.hid (Held.mk qx2)
        obtain ⟨Ax2, cx2, rfl, Sx2⟩ := qx2
        obtain ⟨rfl, ix3, rfl⟩ := hr''
        obtain ⟨_, _, _, _, qx1, hr'', rfl, rfl⟩ := hr'
        obtain ⟨rfl, ix1, rfl⟩ := qx1
        obtain ⟨_, _, _, _, qx2, hr''', rfl, rfl⟩ := hr''
        have Rx2b := Lib.hid (Held.mk qx2)
        obtain ⟨Ax2b, cx2b, rfl, Sx2b⟩ := qx2
        obtain ⟨rfl, ix3, rfl⟩ := hr'''
        have p0 : w.cell? ⟨b, off + k * 3, none⟩ = some (.int .i64 x1) := (hC 0 _ rfl).1
        have p1 : w.cell? ⟨b, off + k * 3 + 1, none⟩ = some (.slice Ax2 x2.length cx2) := (hC 1 _ rfl).1
        have p2 : w.cell? ⟨b, off + k * 3 + 2, none⟩ = some (.int .i64 x3) := (hC 2 _ rfl).1
        have q0 : w.cell? ⟨b', off' + k * 3, none⟩ = some (.int .i64 x1) := (hC' 0 _ rfl).1
        have q1 : w.cell? ⟨b', off' + k * 3 + 1, none⟩ = some (.slice Ax2b x2.length cx2b) := (hC' 1 _ rfl).1
        have q2 : w.cell? ⟨b', off' + k * 3 + 2, none⟩ = some (.int .i64 x3) := (hC' 2 _ rfl).1
        clear hC hC'
        go_wp2_with fail
        go_region_with (go_at_call 218; refine (l_eqScope (x1, x2, x3) _ _ _ (by repeat (first | exact HR.out | with_reducible refine held_alloc ?_ _ | with_reducible refine held_ext ?_ _ _)) (by repeat (first | exact HR'.out | with_reducible refine held_alloc ?_ _ | with_reducible refine held_ext ?_ _ _))).mono ?_; rintro e _ ⟨rfl, E1, d1, rfl⟩)
        all_goals
          go_wp2
          go_roundw
          case rel => exact ⟨k + 1, E ++ E1, d1, by omega, by go_num, ext_ext _ _ _ _ _⟩
          case measure => simp [intOf]; omega
    · go_wp2
      go_ret
      exact RV.mk rfl (by repeat (first | exact Below.refl _ _ | refine bl_al ?_ _ | refine bl_ext ?_ _ _ | refine Below.drew ?_ | assumption | refine bl_tr ?_ (by assumption)))

set_option maxRecDepth 100000 in
set_option maxHeartbeats 2000000 in
theorem l_eqFilter (x : GFilter) (cs ds : List Value) (w : World) (h : Held w x cs) (k : Held w x ds) :
    Calls Try.prog 60 #[.agg cs.toArray, .agg ds.toArray] w (RV (.bool true) w) := by
  obtain ⟨F, h⟩ := h
  obtain ⟨F', k⟩ := k
  obtain ⟨x1, x2⟩ := x
  obtain ⟨_, _, _, _, qx1, h', rfl, rfl⟩ := h
  obtain ⟨rfl, rfl⟩ := qx1
  have Rx2 := Lib.hid (Held.mk h')
  obtain ⟨Ax2, cx2, rfl, Sx2⟩ := h'
  obtain ⟨_, _, _, _, qx1, k', rfl, rfl⟩ := k
  obtain ⟨rfl, rfl⟩ := qx1
  have Rx2b := Lib.hid (Held.mk k')
  obtain ⟨Ax2b, cx2b, rfl, Sx2b⟩ := k'
  change Calls Try.prog 60 #[.agg #[.bool x1, .slice Ax2 x2.length cx2], .agg #[.bool x1, .slice Ax2b x2.length cx2b]] w _
  go_enter Try.func60, Try.ntmps60
  go_wp2_with (first | (go_at_call 143; refine (l_eqScopeS x2 _ _ _ (by repeat (first | exact Rx2.out | with_reducible refine held_alloc ?_ _ | with_reducible refine held_ext ?_ _ _)) (by repeat (first | exact Rx2b.out | with_reducible refine held_alloc ?_ _ | with_reducible refine held_ext ?_ _ _))).mono ?_; rintro e _ ⟨rfl, Ex2, dx2, rfl⟩))
  go_ret
  exact RV.mk rfl (by repeat (first | exact Below.refl _ _ | refine bl_al ?_ _ | refine bl_ext ?_ _ _ | refine Below.drew ?_ | assumption | refine bl_tr ?_ (by assumption)))

set_option maxRecDepth 100000 in
set_option maxHeartbeats 2000000 in
theorem l_eqMsg (x : GMsg) (cs ds : List Value) (w : World) (h : Held w x cs) (k : Held w x ds) :
    Calls Try.prog 250 #[.agg cs.toArray, .agg ds.toArray] w (RV (.bool true) w) := by
  obtain ⟨F, h⟩ := h
  obtain ⟨F', k⟩ := k
  obtain ⟨x1, x2, x3⟩ := x
  obtain ⟨_, _, _, _, qx1, h', rfl, rfl⟩ := h
  obtain ⟨rfl, ix1, rfl⟩ := qx1
  obtain ⟨_, _, _, _, qx2, h'', rfl, rfl⟩ := h'
  obtain ⟨rfl, ix2, rfl⟩ := qx2
  obtain ⟨rfl, gx3, rfl⟩ := h''
  obtain ⟨_, _, _, _, qx1, k', rfl, rfl⟩ := k
  obtain ⟨rfl, ix1, rfl⟩ := qx1
  obtain ⟨_, _, _, _, qx2, k'', rfl, rfl⟩ := k'
  obtain ⟨rfl, ix2, rfl⟩ := qx2
  obtain ⟨rfl, gx3, rfl⟩ := k''
  change Calls Try.prog 250 #[.agg #[.int .i64 x1, .int .i64 x2, .string x3], .agg #[.int .i64 x1, .int .i64 x2, .string x3]] w _
  clear ix1 ix2 gx3
  clear ix1 ix2 gx3
  go_enter Try.func250, Try.ntmps250
  go_wp2
  go_ret
  exact RV.mk rfl (by repeat (first | exact Below.refl _ _ | refine bl_al ?_ _ | refine bl_ext ?_ _ _ | refine Below.drew ?_ | assumption | refine bl_tr ?_ (by assumption)))

set_option maxRecDepth 100000 in
set_option maxHeartbeats 1000000 in
theorem l_eqMsgS (xs : (List GMsg)) (v u : Value) (w : World) (h : Held w xs [v]) (k : Held w xs [u]) :
    Calls Try.prog 231 #[v, u] w (RV (.bool true) w) := by
  obtain ⟨F, A, c, e, S⟩ := h
  obtain rfl : v = .slice A xs.length c := by simpa using e
  have hl : xs.length ≤ c := S.1
  have hm := le63 S.2.1
  have HS := Lib.hid S
  clear S e
  obtain ⟨F', A', c', e, S⟩ := k
  obtain rfl : u = .slice A' xs.length c' := by simpa using e
  have HS' := Lib.hid S
  clear S e
  go_enter Try.func231, Try.ntmps231
  go_wp2
  go_loopw [5] (fun i wr => ∃ (k : Nat) (E : Array Obj) (d : Nat), k ≤ xs.length ∧ i = .int .i64 k ∧ wr = ext w E d) (fun i _ => xs.length - (intOf i).toNat)
  case atStart => exact ⟨0, #[], w.drawn, by omega, rfl, by simp [ext]⟩
  case round =>
    obtain ⟨k, E, d, hk, rfl, rfl⟩ := hrel
    by_cases hlt : k < xs.length
    · obtain ⟨b, off, x, cs, Gk, rfl, hx, hr, _, _, hb, hC⟩ := HS.out.at_ hlt
      obtain ⟨b', off', x', cs', Gk', rfl, hx', hr', _, _, hb', hC'⟩ := HS'.out.at_ hlt
      have ex : x = x' := by rw [hx] at hx'; exact Option.some.inj hx'
      clear hx hx'
      subst ex
      have _ := hb'
      · skip
        have HR := Lib.hid (Held.mk hr)
        have HR' := Lib.hid (Held.mk hr')
        obtain ⟨x1, x2, x3⟩ := x
        obtain ⟨_, _, _, _, qx1, hr', rfl, rfl⟩ := hr
        obtain ⟨rfl, ix1, rfl⟩ := qx1
        obtain ⟨_, _, _, _, qx2, hr'', rfl, rfl⟩ := hr'
        obtain ⟨rfl, ix2, rfl⟩ := qx2
        obtain ⟨rfl, gx3, rfl⟩ := hr''
        obtain ⟨_, _, _, _, qx1, hr'', rfl, rfl⟩ := hr'
        obtain ⟨rfl, ix1, rfl⟩ := qx1
        obtain ⟨_, _, _, _, qx2, hr''', rfl, rfl⟩ := hr''
        obtain ⟨rfl, ix2, rfl⟩ := qx2
        obtain ⟨rfl, gx3, rfl⟩ := hr'''
        have p0 : w.cell? ⟨b, off + k * 3, none⟩ = some (.int .i64 x1) := (hC 0 _ rfl).1
        have p1 : w.cell? ⟨b, off + k * 3 + 1, none⟩ = some (.int .i64 x2) := (hC 1 _ rfl).1
        have p2 : w.cell? ⟨b, off + k * 3 + 2, none⟩ = some (.string x3) := (hC 2 _ rfl).1
        have q0 : w.cell? ⟨b', off' + k * 3, none⟩ = some (.int .i64 x1) := (hC' 0 _ rfl).1
        have q1 : w.cell? ⟨b', off' + k * 3 + 1, none⟩ = some (.int .i64 x2) := (hC' 1 _ rfl).1
        have q2 : w.cell? ⟨b', off' + k * 3 + 2, none⟩ = some (.string x3) := (hC' 2 _ rfl).1
        clear hC hC'
        go_wp2_with fail
        go_region_with (go_at_call 250; refine (l_eqMsg (x1, x2, x3) _ _ _ (by repeat (first | exact HR.out | with_reducible refine held_alloc ?_ _ | with_reducible refine held_ext ?_ _ _)) (by repeat (first | exact HR'.out | with_reducible refine held_alloc ?_ _ | with_reducible refine held_ext ?_ _ _))).mono ?_; rintro e _ ⟨rfl, E1, d1, rfl⟩)
        all_goals
          go_wp2
          go_roundw
          case rel => exact ⟨k + 1, E ++ E1, d1, by omega, by go_num, ext_ext _ _ _ _ _⟩
          case measure => simp [intOf]; omega
    · go_wp2
      go_ret
      exact RV.mk rfl (by repeat (first | exact Below.refl _ _ | refine bl_al ?_ _ | refine bl_ext ?_ _ _ | refine Below.drew ?_ | assumption | refine bl_tr ?_ (by assumption)))

set_option maxRecDepth 100000 in
set_option maxHeartbeats 2000000 in
theorem l_eqBox (x : GBox) (cs ds : List Value) (w : World) (h : Held w x cs) (k : Held w x ds) :
    Calls Try.prog 170 #[.agg cs.toArray, .agg ds.toArray] w (RV (.bool true) w) := by
  obtain ⟨F, h⟩ := h
  obtain ⟨F', k⟩ := k
  obtain ⟨x1, x2, x3, x4⟩ := x
  obtain ⟨_, _, _, _, qx1, h', rfl, rfl⟩ := h
  obtain ⟨rfl, gx1, rfl⟩ := qx1
  obtain ⟨_, _, _, _, qx2, h'', rfl, rfl⟩ := h'
  obtain ⟨rfl, ix2, rfl⟩ := qx2
  obtain ⟨_, _, _, _, qx3, h''', rfl, rfl⟩ := h''
  obtain ⟨rfl, ix3, rfl⟩ := qx3
  have Rx4 := Lib.hid (Held.mk h''')
  obtain ⟨Ax4, cx4, rfl, Sx4⟩ := h'''
  obtain ⟨_, _, _, _, qx1, k', rfl, rfl⟩ := k
  obtain ⟨rfl, gx1, rfl⟩ := qx1
  obtain ⟨_, _, _, _, qx2, k'', rfl, rfl⟩ := k'
  obtain ⟨rfl, ix2, rfl⟩ := qx2
  obtain ⟨_, _, _, _, qx3, k''', rfl, rfl⟩ := k''
  obtain ⟨rfl, ix3, rfl⟩ := qx3
  have Rx4b := Lib.hid (Held.mk k''')
  obtain ⟨Ax4b, cx4b, rfl, Sx4b⟩ := k'''
  change Calls Try.prog 170 #[.agg #[.string x1, .int .i64 x2, .int .i64 x3, .slice Ax4 x4.length cx4], .agg #[.string x1, .int .i64 x2, .int .i64 x3, .slice Ax4b x4.length cx4b]] w _
  clear gx1 ix2 ix3
  clear gx1 ix2 ix3
  go_enter Try.func170, Try.ntmps170
  go_wp2_with (first | (go_at_call 231; refine (l_eqMsgS x4 _ _ _ (by repeat (first | exact Rx4.out | with_reducible refine held_alloc ?_ _ | with_reducible refine held_ext ?_ _ _)) (by repeat (first | exact Rx4b.out | with_reducible refine held_alloc ?_ _ | with_reducible refine held_ext ?_ _ _))).mono ?_; rintro e _ ⟨rfl, Ex4, dx4, rfl⟩))
  go_ret
  exact RV.mk rfl (by repeat (first | exact Below.refl _ _ | refine bl_al ?_ _ | refine bl_ext ?_ _ _ | refine Below.drew ?_ | assumption | refine bl_tr ?_ (by assumption)))

set_option maxRecDepth 100000 in
set_option maxHeartbeats 1000000 in
theorem l_eqBoxS (xs : (List GBox)) (v u : Value) (w : World) (h : Held w xs [v]) (k : Held w xs [u]) :
    Calls Try.prog 85 #[v, u] w (RV (.bool true) w) := by
  obtain ⟨F, A, c, e, S⟩ := h
  obtain rfl : v = .slice A xs.length c := by simpa using e
  have hl : xs.length ≤ c := S.1
  have hm := le63 S.2.1
  have HS := Lib.hid S
  clear S e
  obtain ⟨F', A', c', e, S⟩ := k
  obtain rfl : u = .slice A' xs.length c' := by simpa using e
  have HS' := Lib.hid S
  clear S e
  go_enter Try.func85, Try.ntmps85
  go_wp2
  go_loopw [5] (fun i wr => ∃ (k : Nat) (E : Array Obj) (d : Nat), k ≤ xs.length ∧ i = .int .i64 k ∧ wr = ext w E d) (fun i _ => xs.length - (intOf i).toNat)
  case atStart => exact ⟨0, #[], w.drawn, by omega, rfl, by simp [ext]⟩
  case round =>
    obtain ⟨k, E, d, hk, rfl, rfl⟩ := hrel
    by_cases hlt : k < xs.length
    · obtain ⟨b, off, x, cs, Gk, rfl, hx, hr, _, _, hb, hC⟩ := HS.out.at_ hlt
      obtain ⟨b', off', x', cs', Gk', rfl, hx', hr', _, _, hb', hC'⟩ := HS'.out.at_ hlt
      have ex : x = x' := by rw [hx] at hx'; exact Option.some.inj hx'
      clear hx hx'
      subst ex
      have _ := hb'
      · skip
        have HR := Lib.hid (Held.mk hr)
        have HR' := Lib.hid (Held.mk hr')
        obtain ⟨x1, x2, x3, x4⟩ := x
        obtain ⟨_, _, _, _, qx1, hr', rfl, rfl⟩ := hr
        obtain ⟨rfl, gx1, rfl⟩ := qx1
        obtain ⟨_, _, _, _, qx2, hr'', rfl, rfl⟩ := hr'
        obtain ⟨rfl, ix2, rfl⟩ := qx2
        obtain ⟨_, _, _, _, qx3, hr''', rfl, rfl⟩ := hr''
        obtain ⟨rfl, ix3, rfl⟩ := qx3
        have Rx4 := Lib.hid (Held.mk hr''')
        obtain ⟨Ax4, cx4, rfl, Sx4⟩ := hr'''
        obtain ⟨_, _, _, _, qx1, hr'', rfl, rfl⟩ := hr'
        obtain ⟨rfl, gx1, rfl⟩ := qx1
        obtain ⟨_, _, _, _, qx2, hr''', rfl, rfl⟩ := hr''
        obtain ⟨rfl, ix2, rfl⟩ := qx2
        obtain ⟨_, _, _, _, qx3, hr'''', rfl, rfl⟩ := hr'''
        obtain ⟨rfl, ix3, rfl⟩ := qx3
        have Rx4b := Lib.hid (Held.mk hr'''')
        obtain ⟨Ax4b, cx4b, rfl, Sx4b⟩ := hr''''
        have p0 : w.cell? ⟨b, off + k * 4, none⟩ = some (.string x1) := (hC 0 _ rfl).1
        have p1 : w.cell? ⟨b, off + k * 4 + 1, none⟩ = some (.int .i64 x2) := (hC 1 _ rfl).1
        have p2 : w.cell? ⟨b, off + k * 4 + 2, none⟩ = some (.int .i64 x3) := (hC 2 _ rfl).1
        have p3 : w.cell? ⟨b, off + k * 4 + 3, none⟩ = some (.slice Ax4 x4.length cx4) := (hC 3 _ rfl).1
        have q0 : w.cell? ⟨b', off' + k * 4, none⟩ = some (.string x1) := (hC' 0 _ rfl).1
        have q1 : w.cell? ⟨b', off' + k * 4 + 1, none⟩ = some (.int .i64 x2) := (hC' 1 _ rfl).1
        have q2 : w.cell? ⟨b', off' + k * 4 + 2, none⟩ = some (.int .i64 x3) := (hC' 2 _ rfl).1
        have q3 : w.cell? ⟨b', off' + k * 4 + 3, none⟩ = some (.slice Ax4b x4.length cx4b) := (hC' 3 _ rfl).1
        clear hC hC'
        go_wp2_with fail
        go_region_with (go_at_call 170; refine (l_eqBox (x1, x2, x3, x4) _ _ _ (by repeat (first | exact HR.out | with_reducible refine held_alloc ?_ _ | with_reducible refine held_ext ?_ _ _)) (by repeat (first | exact HR'.out | with_reducible refine held_alloc ?_ _ | with_reducible refine held_ext ?_ _ _))).mono ?_; rintro e _ ⟨rfl, E1, d1, rfl⟩)
        all_goals
          go_wp2
          go_roundw
          case rel => exact ⟨k + 1, E ++ E1, d1, by omega, by go_num, ext_ext _ _ _ _ _⟩
          case measure => simp [intOf]; omega
    · go_wp2
      go_ret
      exact RV.mk rfl (by repeat (first | exact Below.refl _ _ | refine bl_al ?_ _ | refine bl_ext ?_ _ _ | refine Below.drew ?_ | assumption | refine bl_tr ?_ (by assumption)))

set_option maxRecDepth 100000 in
set_option maxHeartbeats 2000000 in
theorem l_eqCommit (x : GCommit) (cs ds : List Value) (w : World) (h : Held w x cs) (k : Held w x ds) :
    Calls Try.prog 171 #[.agg cs.toArray, .agg ds.toArray] w (RV (.bool true) w) := by
  obtain ⟨F, h⟩ := h
  obtain ⟨F', k⟩ := k
  obtain ⟨x1, x2, x3, x4, x5, x6⟩ := x
  obtain ⟨_, _, _, _, qx1, h', rfl, rfl⟩ := h
  obtain ⟨rfl, ix1, rfl⟩ := qx1
  obtain ⟨_, _, _, _, qx2, h'', rfl, rfl⟩ := h'
  obtain ⟨rfl, ix2, rfl⟩ := qx2
  obtain ⟨_, _, _, _, qx3, h''', rfl, rfl⟩ := h''
  obtain ⟨rfl, ix3, rfl⟩ := qx3
  obtain ⟨_, _, _, _, qx4, h'''', rfl, rfl⟩ := h'''
  obtain ⟨rfl, ix4, rfl⟩ := qx4
  obtain ⟨_, _, _, _, qx5, h''''', rfl, rfl⟩ := h''''
  obtain ⟨rfl, gx5, rfl⟩ := qx5
  obtain ⟨rfl, gx6, rfl⟩ := h'''''
  obtain ⟨_, _, _, _, qx1, k', rfl, rfl⟩ := k
  obtain ⟨rfl, ix1, rfl⟩ := qx1
  obtain ⟨_, _, _, _, qx2, k'', rfl, rfl⟩ := k'
  obtain ⟨rfl, ix2, rfl⟩ := qx2
  obtain ⟨_, _, _, _, qx3, k''', rfl, rfl⟩ := k''
  obtain ⟨rfl, ix3, rfl⟩ := qx3
  obtain ⟨_, _, _, _, qx4, k'''', rfl, rfl⟩ := k'''
  obtain ⟨rfl, ix4, rfl⟩ := qx4
  obtain ⟨_, _, _, _, qx5, k''''', rfl, rfl⟩ := k''''
  obtain ⟨rfl, gx5, rfl⟩ := qx5
  obtain ⟨rfl, gx6, rfl⟩ := k'''''
  change Calls Try.prog 171 #[.agg #[.int .i64 x1, .int .i64 x2, .int .i64 x3, .int .i64 x4, .string x5, .string x6], .agg #[.int .i64 x1, .int .i64 x2, .int .i64 x3, .int .i64 x4, .string x5, .string x6]] w _
  clear ix1 ix2 ix3 ix4 gx5 gx6
  clear ix1 ix2 ix3 ix4 gx5 gx6
  go_enter Try.func171, Try.ntmps171
  go_wp2
  go_ret
  exact RV.mk rfl (by repeat (first | exact Below.refl _ _ | refine bl_al ?_ _ | refine bl_ext ?_ _ _ | refine Below.drew ?_ | assumption | refine bl_tr ?_ (by assumption)))

set_option maxRecDepth 100000 in
set_option maxHeartbeats 1000000 in
theorem l_eqCommitS (xs : (List GCommit)) (v u : Value) (w : World) (h : Held w xs [v]) (k : Held w xs [u]) :
    Calls Try.prog 86 #[v, u] w (RV (.bool true) w) := by
  obtain ⟨F, A, c, e, S⟩ := h
  obtain rfl : v = .slice A xs.length c := by simpa using e
  have hl : xs.length ≤ c := S.1
  have hm := le63 S.2.1
  have HS := Lib.hid S
  clear S e
  obtain ⟨F', A', c', e, S⟩ := k
  obtain rfl : u = .slice A' xs.length c' := by simpa using e
  have HS' := Lib.hid S
  clear S e
  go_enter Try.func86, Try.ntmps86
  go_wp2
  go_loopw [5] (fun i wr => ∃ (k : Nat) (E : Array Obj) (d : Nat), k ≤ xs.length ∧ i = .int .i64 k ∧ wr = ext w E d) (fun i _ => xs.length - (intOf i).toNat)
  case atStart => exact ⟨0, #[], w.drawn, by omega, rfl, by simp [ext]⟩
  case round =>
    obtain ⟨k, E, d, hk, rfl, rfl⟩ := hrel
    by_cases hlt : k < xs.length
    · obtain ⟨b, off, x, cs, Gk, rfl, hx, hr, _, _, hb, hC⟩ := HS.out.at_ hlt
      obtain ⟨b', off', x', cs', Gk', rfl, hx', hr', _, _, hb', hC'⟩ := HS'.out.at_ hlt
      have ex : x = x' := by rw [hx] at hx'; exact Option.some.inj hx'
      clear hx hx'
      subst ex
      have _ := hb'
      · skip
        have HR := Lib.hid (Held.mk hr)
        have HR' := Lib.hid (Held.mk hr')
        obtain ⟨x1, x2, x3, x4, x5, x6⟩ := x
        obtain ⟨_, _, _, _, qx1, hr', rfl, rfl⟩ := hr
        obtain ⟨rfl, ix1, rfl⟩ := qx1
        obtain ⟨_, _, _, _, qx2, hr'', rfl, rfl⟩ := hr'
        obtain ⟨rfl, ix2, rfl⟩ := qx2
        obtain ⟨_, _, _, _, qx3, hr''', rfl, rfl⟩ := hr''
        obtain ⟨rfl, ix3, rfl⟩ := qx3
        obtain ⟨_, _, _, _, qx4, hr'''', rfl, rfl⟩ := hr'''
        obtain ⟨rfl, ix4, rfl⟩ := qx4
        obtain ⟨_, _, _, _, qx5, hr''''', rfl, rfl⟩ := hr''''
        obtain ⟨rfl, gx5, rfl⟩ := qx5
        obtain ⟨rfl, gx6, rfl⟩ := hr'''''
        obtain ⟨_, _, _, _, qx1, hr'', rfl, rfl⟩ := hr'
        obtain ⟨rfl, ix1, rfl⟩ := qx1
        obtain ⟨_, _, _, _, qx2, hr''', rfl, rfl⟩ := hr''
        obtain ⟨rfl, ix2, rfl⟩ := qx2
        obtain ⟨_, _, _, _, qx3, hr'''', rfl, rfl⟩ := hr'''
        obtain ⟨rfl, ix3, rfl⟩ := qx3
        obtain ⟨_, _, _, _, qx4, hr''''', rfl, rfl⟩ := hr''''
        obtain ⟨rfl, ix4, rfl⟩ := qx4
        obtain ⟨_, _, _, _, qx5, hr'''''', rfl, rfl⟩ := hr'''''
        obtain ⟨rfl, gx5, rfl⟩ := qx5
        obtain ⟨rfl, gx6, rfl⟩ := hr''''''
        have p0 : w.cell? ⟨b, off + k * 6, none⟩ = some (.int .i64 x1) := (hC 0 _ rfl).1
        have p1 : w.cell? ⟨b, off + k * 6 + 1, none⟩ = some (.int .i64 x2) := (hC 1 _ rfl).1
        have p2 : w.cell? ⟨b, off + k * 6 + 2, none⟩ = some (.int .i64 x3) := (hC 2 _ rfl).1
        have p3 : w.cell? ⟨b, off + k * 6 + 3, none⟩ = some (.int .i64 x4) := (hC 3 _ rfl).1
        have p4 : w.cell? ⟨b, off + k * 6 + 4, none⟩ = some (.string x5) := (hC 4 _ rfl).1
        have p5 : w.cell? ⟨b, off + k * 6 + 5, none⟩ = some (.string x6) := (hC 5 _ rfl).1
        have q0 : w.cell? ⟨b', off' + k * 6, none⟩ = some (.int .i64 x1) := (hC' 0 _ rfl).1
        have q1 : w.cell? ⟨b', off' + k * 6 + 1, none⟩ = some (.int .i64 x2) := (hC' 1 _ rfl).1
        have q2 : w.cell? ⟨b', off' + k * 6 + 2, none⟩ = some (.int .i64 x3) := (hC' 2 _ rfl).1
        have q3 : w.cell? ⟨b', off' + k * 6 + 3, none⟩ = some (.int .i64 x4) := (hC' 3 _ rfl).1
        have q4 : w.cell? ⟨b', off' + k * 6 + 4, none⟩ = some (.string x5) := (hC' 4 _ rfl).1
        have q5 : w.cell? ⟨b', off' + k * 6 + 5, none⟩ = some (.string x6) := (hC' 5 _ rfl).1
        clear hC hC'
        go_wp2_with fail
        go_region_with (go_at_call 171; refine (l_eqCommit (x1, x2, x3, x4, x5, x6) _ _ _ (by repeat (first | exact HR.out | with_reducible refine held_alloc ?_ _ | with_reducible refine held_ext ?_ _ _)) (by repeat (first | exact HR'.out | with_reducible refine held_alloc ?_ _ | with_reducible refine held_ext ?_ _ _))).mono ?_; rintro e _ ⟨rfl, E1, d1, rfl⟩)
        all_goals
          go_wp2
          go_roundw
          case rel => exact ⟨k + 1, E ++ E1, d1, by omega, by go_num, ext_ext _ _ _ _ _⟩
          case measure => simp [intOf]; omega
    · go_wp2
      go_ret
      exact RV.mk rfl (by repeat (first | exact Below.refl _ _ | refine bl_al ?_ _ | refine bl_ext ?_ _ _ | refine Below.drew ?_ | assumption | refine bl_tr ?_ (by assumption)))

set_option maxRecDepth 100000 in
set_option maxHeartbeats 2000000 in
theorem l_eqStore (x : GStore) (cs ds : List Value) (w : World) (h : Held w x cs) (k : Held w x ds) :
    Calls Try.prog 19 #[.agg cs.toArray, .agg ds.toArray] w (RV (.bool true) w) := by
  obtain ⟨F, h⟩ := h
  obtain ⟨F', k⟩ := k
  obtain ⟨x1, x2, x3⟩ := x
  obtain ⟨_, _, _, _, qx1, h', rfl, rfl⟩ := h
  have Rx1 := Lib.hid (Held.mk qx1)
  obtain ⟨Ax1, cx1, rfl, Sx1⟩ := qx1
  obtain ⟨_, _, _, _, qx2, h'', rfl, rfl⟩ := h'
  have Rx2 := Lib.hid (Held.mk qx2)
  obtain ⟨Ax2, cx2, rfl, Sx2⟩ := qx2
  obtain ⟨rfl, ix3, rfl⟩ := h''
  obtain ⟨_, _, _, _, qx1, k', rfl, rfl⟩ := k
  have Rx1b := Lib.hid (Held.mk qx1)
  obtain ⟨Ax1b, cx1b, rfl, Sx1b⟩ := qx1
  obtain ⟨_, _, _, _, qx2, k'', rfl, rfl⟩ := k'
  have Rx2b := Lib.hid (Held.mk qx2)
  obtain ⟨Ax2b, cx2b, rfl, Sx2b⟩ := qx2
  obtain ⟨rfl, ix3, rfl⟩ := k''
  change Calls Try.prog 19 #[.agg #[.slice Ax1 x1.length cx1, .slice Ax2 x2.length cx2, .int .i64 x3], .agg #[.slice Ax1b x1.length cx1b, .slice Ax2b x2.length cx2b, .int .i64 x3]] w _
  clear ix3
  clear ix3
  go_enter Try.func19, Try.ntmps19
  go_wp2_with (first | (go_at_call 85; refine (l_eqBoxS x1 _ _ _ (by repeat (first | exact Rx1.out | with_reducible refine held_alloc ?_ _ | with_reducible refine held_ext ?_ _ _)) (by repeat (first | exact Rx1b.out | with_reducible refine held_alloc ?_ _ | with_reducible refine held_ext ?_ _ _))).mono ?_; rintro e _ ⟨rfl, Ex1, dx1, rfl⟩) | (go_at_call 86; refine (l_eqCommitS x2 _ _ _ (by repeat (first | exact Rx2.out | with_reducible refine held_alloc ?_ _ | with_reducible refine held_ext ?_ _ _)) (by repeat (first | exact Rx2b.out | with_reducible refine held_alloc ?_ _ | with_reducible refine held_ext ?_ _ _))).mono ?_; rintro e _ ⟨rfl, Ex2, dx2, rfl⟩))
  go_ret
  exact RV.mk rfl (by repeat (first | exact Below.refl _ _ | refine bl_al ?_ _ | refine bl_ext ?_ _ _ | refine Below.drew ?_ | assumption | refine bl_tr ?_ (by assumption)))

set_option maxRecDepth 100000 in
set_option maxHeartbeats 2000000 in
theorem l_eqSeen (x : GSeen) (cs ds : List Value) (w : World) (h : Held w x cs) (k : Held w x ds) :
    Calls Try.prog 201 #[.agg cs.toArray, .agg ds.toArray] w (RV (.bool true) w) := by
  obtain ⟨F, h⟩ := h
  obtain ⟨F', k⟩ := k
  obtain ⟨x1, x2⟩ := x
  obtain ⟨_, _, _, _, qx1, h', rfl, rfl⟩ := h
  obtain ⟨rfl, ix1, rfl⟩ := qx1
  obtain ⟨rfl, ix2, rfl⟩ := h'
  obtain ⟨_, _, _, _, qx1, k', rfl, rfl⟩ := k
  obtain ⟨rfl, ix1, rfl⟩ := qx1
  obtain ⟨rfl, ix2, rfl⟩ := k'
  change Calls Try.prog 201 #[.agg #[.int .i64 x1, .int .i64 x2], .agg #[.int .i64 x1, .int .i64 x2]] w _
  clear ix1 ix2
  clear ix1 ix2
  go_enter Try.func201, Try.ntmps201
  go_wp2
  go_ret
  exact RV.mk rfl (by repeat (first | exact Below.refl _ _ | refine bl_al ?_ _ | refine bl_ext ?_ _ _ | refine Below.drew ?_ | assumption | refine bl_tr ?_ (by assumption)))

set_option maxRecDepth 100000 in
set_option maxHeartbeats 1000000 in
theorem l_eqSeenS (xs : (List GSeen)) (v u : Value) (w : World) (h : Held w xs [v]) (k : Held w xs [u]) :
    Calls Try.prog 127 #[v, u] w (RV (.bool true) w) := by
  obtain ⟨F, A, c, e, S⟩ := h
  obtain rfl : v = .slice A xs.length c := by simpa using e
  have hl : xs.length ≤ c := S.1
  have hm := le63 S.2.1
  have HS := Lib.hid S
  clear S e
  obtain ⟨F', A', c', e, S⟩ := k
  obtain rfl : u = .slice A' xs.length c' := by simpa using e
  have HS' := Lib.hid S
  clear S e
  go_enter Try.func127, Try.ntmps127
  go_wp2
  go_loopw [5] (fun i wr => ∃ (k : Nat) (E : Array Obj) (d : Nat), k ≤ xs.length ∧ i = .int .i64 k ∧ wr = ext w E d) (fun i _ => xs.length - (intOf i).toNat)
  case atStart => exact ⟨0, #[], w.drawn, by omega, rfl, by simp [ext]⟩
  case round =>
    obtain ⟨k, E, d, hk, rfl, rfl⟩ := hrel
    by_cases hlt : k < xs.length
    · obtain ⟨b, off, x, cs, Gk, rfl, hx, hr, _, _, hb, hC⟩ := HS.out.at_ hlt
      obtain ⟨b', off', x', cs', Gk', rfl, hx', hr', _, _, hb', hC'⟩ := HS'.out.at_ hlt
      have ex : x = x' := by rw [hx] at hx'; exact Option.some.inj hx'
      clear hx hx'
      subst ex
      have _ := hb'
      · skip
        have HR := Lib.hid (Held.mk hr)
        have HR' := Lib.hid (Held.mk hr')
        obtain ⟨x1, x2⟩ := x
        obtain ⟨_, _, _, _, qx1, hr', rfl, rfl⟩ := hr
        obtain ⟨rfl, ix1, rfl⟩ := qx1
        obtain ⟨rfl, ix2, rfl⟩ := hr'
        obtain ⟨_, _, _, _, qx1, hr'', rfl, rfl⟩ := hr'
        obtain ⟨rfl, ix1, rfl⟩ := qx1
        obtain ⟨rfl, ix2, rfl⟩ := hr''
        have p0 : w.cell? ⟨b, off + k * 2, none⟩ = some (.int .i64 x1) := (hC 0 _ rfl).1
        have p1 : w.cell? ⟨b, off + k * 2 + 1, none⟩ = some (.int .i64 x2) := (hC 1 _ rfl).1
        have q0 : w.cell? ⟨b', off' + k * 2, none⟩ = some (.int .i64 x1) := (hC' 0 _ rfl).1
        have q1 : w.cell? ⟨b', off' + k * 2 + 1, none⟩ = some (.int .i64 x2) := (hC' 1 _ rfl).1
        clear hC hC'
        go_wp2_with fail
        go_region_with (go_at_call 201; refine (l_eqSeen (x1, x2) _ _ _ (by repeat (first | exact HR.out | with_reducible refine held_alloc ?_ _ | with_reducible refine held_ext ?_ _ _)) (by repeat (first | exact HR'.out | with_reducible refine held_alloc ?_ _ | with_reducible refine held_ext ?_ _ _))).mono ?_; rintro e _ ⟨rfl, E1, d1, rfl⟩)
        all_goals
          go_wp2
          go_roundw
          case rel => exact ⟨k + 1, E ++ E1, d1, by omega, by go_num, ext_ext _ _ _ _ _⟩
          case measure => simp [intOf]; omega
    · go_wp2
      go_ret
      exact RV.mk rfl (by repeat (first | exact Below.refl _ _ | refine bl_al ?_ _ | refine bl_ext ?_ _ _ | refine Below.drew ?_ | assumption | refine bl_tr ?_ (by assumption)))

set_option maxRecDepth 100000 in
set_option maxHeartbeats 2000000 in
theorem l_eqView (x : GView) (cs ds : List Value) (w : World) (h : Held w x cs) (k : Held w x ds) :
    Calls Try.prog 51 #[.agg cs.toArray, .agg ds.toArray] w (RV (.bool true) w) := by
  obtain ⟨F, h⟩ := h
  obtain ⟨F', k⟩ := k
  obtain ⟨x1, rfl⟩ : ∃ y, y = x := ⟨_, rfl⟩
  have Rx1 := Lib.hid (Held.mk h)
  obtain ⟨Ax1, cx1, rfl, Sx1⟩ := h
  have Rx1b := Lib.hid (Held.mk k)
  obtain ⟨Ax1b, cx1b, rfl, Sx1b⟩ := k
  change Calls Try.prog 51 #[.agg #[.slice Ax1 x1.length cx1], .agg #[.slice Ax1b x1.length cx1b]] w _
  go_enter Try.func51, Try.ntmps51
  go_wp2_with (first | (go_at_call 127; refine (l_eqSeenS x1 _ _ _ (by repeat (first | exact Rx1.out | with_reducible refine held_alloc ?_ _ | with_reducible refine held_ext ?_ _ _)) (by repeat (first | exact Rx1b.out | with_reducible refine held_alloc ?_ _ | with_reducible refine held_ext ?_ _ _))).mono ?_; rintro e _ ⟨rfl, Ex1, dx1, rfl⟩))
  go_ret
  exact RV.mk rfl (by repeat (first | exact Below.refl _ _ | refine bl_al ?_ _ | refine bl_ext ?_ _ _ | refine Below.drew ?_ | assumption | refine bl_tr ?_ (by assumption)))

set_option maxRecDepth 100000 in
set_option maxHeartbeats 2000000 in
theorem l_eqReply (x : GReply) (cs ds : List Value) (w : World) (h : Held w x cs) (k : Held w x ds) :
    Calls Try.prog 84 #[.agg cs.toArray, .agg ds.toArray] w (RV (.bool true) w) := by
  obtain ⟨F, h⟩ := h
  obtain ⟨F', k⟩ := k
  obtain ⟨x1, x2, x3, x4, x5, x6⟩ := x
  obtain ⟨_, _, _, _, qx1, h', rfl, rfl⟩ := h
  obtain ⟨rfl, ix1, rfl⟩ := qx1
  obtain ⟨_, _, _, _, qx2, h'', rfl, rfl⟩ := h'
  obtain ⟨rfl, ix2, rfl⟩ := qx2
  obtain ⟨_, _, _, _, qx3, h''', rfl, rfl⟩ := h''
  obtain ⟨rfl, ix3, rfl⟩ := qx3
  obtain ⟨_, _, _, _, qx4, h'''', rfl, rfl⟩ := h'''
  obtain ⟨rfl, ix4, rfl⟩ := qx4
  obtain ⟨_, _, _, _, qx5, h''''', rfl, rfl⟩ := h''''
  obtain ⟨rfl, gx5, rfl⟩ := qx5
  obtain ⟨rfl, gx6, rfl⟩ := h'''''
  obtain ⟨_, _, _, _, qx1, k', rfl, rfl⟩ := k
  obtain ⟨rfl, ix1, rfl⟩ := qx1
  obtain ⟨_, _, _, _, qx2, k'', rfl, rfl⟩ := k'
  obtain ⟨rfl, ix2, rfl⟩ := qx2
  obtain ⟨_, _, _, _, qx3, k''', rfl, rfl⟩ := k''
  obtain ⟨rfl, ix3, rfl⟩ := qx3
  obtain ⟨_, _, _, _, qx4, k'''', rfl, rfl⟩ := k'''
  obtain ⟨rfl, ix4, rfl⟩ := qx4
  obtain ⟨_, _, _, _, qx5, k''''', rfl, rfl⟩ := k''''
  obtain ⟨rfl, gx5, rfl⟩ := qx5
  obtain ⟨rfl, gx6, rfl⟩ := k'''''
  change Calls Try.prog 84 #[.agg #[.int .i64 x1, .int .i64 x2, .int .i64 x3, .int .i64 x4, .string x5, .string x6], .agg #[.int .i64 x1, .int .i64 x2, .int .i64 x3, .int .i64 x4, .string x5, .string x6]] w _
  clear ix1 ix2 ix3 ix4 gx5 gx6
  clear ix1 ix2 ix3 ix4 gx5 gx6
  go_enter Try.func84, Try.ntmps84
  go_wp2
  go_ret
  exact RV.mk rfl (by repeat (first | exact Below.refl _ _ | refine bl_al ?_ _ | refine bl_ext ?_ _ _ | refine Below.drew ?_ | assumption | refine bl_tr ?_ (by assumption)))

set_option maxRecDepth 100000 in
set_option maxHeartbeats 1000000 in
theorem l_eqReplyS (xs : (List GReply)) (v u : Value) (w : World) (h : Held w xs [v]) (k : Held w xs [u]) :
    Calls Try.prog 18 #[v, u] w (RV (.bool true) w) := by
  obtain ⟨F, A, c, e, S⟩ := h
  obtain rfl : v = .slice A xs.length c := by simpa using e
  have hl : xs.length ≤ c := S.1
  have hm := le63 S.2.1
  have HS := Lib.hid S
  clear S e
  obtain ⟨F', A', c', e, S⟩ := k
  obtain rfl : u = .slice A' xs.length c' := by simpa using e
  have HS' := Lib.hid S
  clear S e
  go_enter Try.func18, Try.ntmps18
  go_wp2
  go_loopw [5] (fun i wr => ∃ (k : Nat) (E : Array Obj) (d : Nat), k ≤ xs.length ∧ i = .int .i64 k ∧ wr = ext w E d) (fun i _ => xs.length - (intOf i).toNat)
  case atStart => exact ⟨0, #[], w.drawn, by omega, rfl, by simp [ext]⟩
  case round =>
    obtain ⟨k, E, d, hk, rfl, rfl⟩ := hrel
    by_cases hlt : k < xs.length
    · obtain ⟨b, off, x, cs, Gk, rfl, hx, hr, _, _, hb, hC⟩ := HS.out.at_ hlt
      obtain ⟨b', off', x', cs', Gk', rfl, hx', hr', _, _, hb', hC'⟩ := HS'.out.at_ hlt
      have ex : x = x' := by rw [hx] at hx'; exact Option.some.inj hx'
      clear hx hx'
      subst ex
      have _ := hb'
      · skip
        have HR := Lib.hid (Held.mk hr)
        have HR' := Lib.hid (Held.mk hr')
        obtain ⟨x1, x2, x3, x4, x5, x6⟩ := x
        obtain ⟨_, _, _, _, qx1, hr', rfl, rfl⟩ := hr
        obtain ⟨rfl, ix1, rfl⟩ := qx1
        obtain ⟨_, _, _, _, qx2, hr'', rfl, rfl⟩ := hr'
        obtain ⟨rfl, ix2, rfl⟩ := qx2
        obtain ⟨_, _, _, _, qx3, hr''', rfl, rfl⟩ := hr''
        obtain ⟨rfl, ix3, rfl⟩ := qx3
        obtain ⟨_, _, _, _, qx4, hr'''', rfl, rfl⟩ := hr'''
        obtain ⟨rfl, ix4, rfl⟩ := qx4
        obtain ⟨_, _, _, _, qx5, hr''''', rfl, rfl⟩ := hr''''
        obtain ⟨rfl, gx5, rfl⟩ := qx5
        obtain ⟨rfl, gx6, rfl⟩ := hr'''''
        obtain ⟨_, _, _, _, qx1, hr'', rfl, rfl⟩ := hr'
        obtain ⟨rfl, ix1, rfl⟩ := qx1
        obtain ⟨_, _, _, _, qx2, hr''', rfl, rfl⟩ := hr''
        obtain ⟨rfl, ix2, rfl⟩ := qx2
        obtain ⟨_, _, _, _, qx3, hr'''', rfl, rfl⟩ := hr'''
        obtain ⟨rfl, ix3, rfl⟩ := qx3
        obtain ⟨_, _, _, _, qx4, hr''''', rfl, rfl⟩ := hr''''
        obtain ⟨rfl, ix4, rfl⟩ := qx4
        obtain ⟨_, _, _, _, qx5, hr'''''', rfl, rfl⟩ := hr'''''
        obtain ⟨rfl, gx5, rfl⟩ := qx5
        obtain ⟨rfl, gx6, rfl⟩ := hr''''''
        have p0 : w.cell? ⟨b, off + k * 6, none⟩ = some (.int .i64 x1) := (hC 0 _ rfl).1
        have p1 : w.cell? ⟨b, off + k * 6 + 1, none⟩ = some (.int .i64 x2) := (hC 1 _ rfl).1
        have p2 : w.cell? ⟨b, off + k * 6 + 2, none⟩ = some (.int .i64 x3) := (hC 2 _ rfl).1
        have p3 : w.cell? ⟨b, off + k * 6 + 3, none⟩ = some (.int .i64 x4) := (hC 3 _ rfl).1
        have p4 : w.cell? ⟨b, off + k * 6 + 4, none⟩ = some (.string x5) := (hC 4 _ rfl).1
        have p5 : w.cell? ⟨b, off + k * 6 + 5, none⟩ = some (.string x6) := (hC 5 _ rfl).1
        have q0 : w.cell? ⟨b', off' + k * 6, none⟩ = some (.int .i64 x1) := (hC' 0 _ rfl).1
        have q1 : w.cell? ⟨b', off' + k * 6 + 1, none⟩ = some (.int .i64 x2) := (hC' 1 _ rfl).1
        have q2 : w.cell? ⟨b', off' + k * 6 + 2, none⟩ = some (.int .i64 x3) := (hC' 2 _ rfl).1
        have q3 : w.cell? ⟨b', off' + k * 6 + 3, none⟩ = some (.int .i64 x4) := (hC' 3 _ rfl).1
        have q4 : w.cell? ⟨b', off' + k * 6 + 4, none⟩ = some (.string x5) := (hC' 4 _ rfl).1
        have q5 : w.cell? ⟨b', off' + k * 6 + 5, none⟩ = some (.string x6) := (hC' 5 _ rfl).1
        clear hC hC'
        go_wp2_with fail
        go_region_with (go_at_call 84; refine (l_eqReply (x1, x2, x3, x4, x5, x6) _ _ _ (by repeat (first | exact HR.out | with_reducible refine held_alloc ?_ _ | with_reducible refine held_ext ?_ _ _)) (by repeat (first | exact HR'.out | with_reducible refine held_alloc ?_ _ | with_reducible refine held_ext ?_ _ _))).mono ?_; rintro e _ ⟨rfl, E1, d1, rfl⟩)
        all_goals
          go_wp2
          go_roundw
          case rel => exact ⟨k + 1, E ++ E1, d1, by omega, by go_num, ext_ext _ _ _ _ _⟩
          case measure => simp [intOf]; omega
    · go_wp2
      go_ret
      exact RV.mk rfl (by repeat (first | exact Below.refl _ _ | refine bl_al ?_ _ | refine bl_ext ?_ _ _ | refine Below.drew ?_ | assumption | refine bl_tr ?_ (by assumption)))

set_option maxRecDepth 100000 in
set_option maxHeartbeats 2000000 in
theorem l_eqNote (x : GNote) (cs ds : List Value) (w : World) (h : Held w x cs) (k : Held w x ds) :
    Calls Try.prog 108 #[.agg cs.toArray, .agg ds.toArray] w (RV (.bool true) w) := by
  obtain ⟨F, h⟩ := h
  obtain ⟨F', k⟩ := k
  obtain ⟨x1, x2, x3, x4⟩ := x
  obtain ⟨_, _, _, _, qx1, h', rfl, rfl⟩ := h
  obtain ⟨rfl, ix1, rfl⟩ := qx1
  obtain ⟨_, _, _, _, qx2, h'', rfl, rfl⟩ := h'
  obtain ⟨rfl, ix2, rfl⟩ := qx2
  obtain ⟨_, _, _, _, qx3, h''', rfl, rfl⟩ := h''
  obtain ⟨rfl, ix3, rfl⟩ := qx3
  obtain ⟨rfl, gx4, rfl⟩ := h'''
  obtain ⟨_, _, _, _, qx1, k', rfl, rfl⟩ := k
  obtain ⟨rfl, ix1, rfl⟩ := qx1
  obtain ⟨_, _, _, _, qx2, k'', rfl, rfl⟩ := k'
  obtain ⟨rfl, ix2, rfl⟩ := qx2
  obtain ⟨_, _, _, _, qx3, k''', rfl, rfl⟩ := k''
  obtain ⟨rfl, ix3, rfl⟩ := qx3
  obtain ⟨rfl, gx4, rfl⟩ := k'''
  change Calls Try.prog 108 #[.agg #[.int .i64 x1, .int .i64 x2, .int .i64 x3, .string x4], .agg #[.int .i64 x1, .int .i64 x2, .int .i64 x3, .string x4]] w _
  clear ix1 ix2 ix3 gx4
  clear ix1 ix2 ix3 gx4
  go_enter Try.func108, Try.ntmps108
  go_wp2
  go_ret
  exact RV.mk rfl (by repeat (first | exact Below.refl _ _ | refine bl_al ?_ _ | refine bl_ext ?_ _ _ | refine Below.drew ?_ | assumption | refine bl_tr ?_ (by assumption)))

set_option maxRecDepth 100000 in
set_option maxHeartbeats 1000000 in
theorem l_eqNoteS (xs : (List GNote)) (v u : Value) (w : World) (h : Held w xs [v]) (k : Held w xs [u]) :
    Calls Try.prog 37 #[v, u] w (RV (.bool true) w) := by
  obtain ⟨F, A, c, e, S⟩ := h
  obtain rfl : v = .slice A xs.length c := by simpa using e
  have hl : xs.length ≤ c := S.1
  have hm := le63 S.2.1
  have HS := Lib.hid S
  clear S e
  obtain ⟨F', A', c', e, S⟩ := k
  obtain rfl : u = .slice A' xs.length c' := by simpa using e
  have HS' := Lib.hid S
  clear S e
  go_enter Try.func37, Try.ntmps37
  go_wp2
  go_loopw [5] (fun i wr => ∃ (k : Nat) (E : Array Obj) (d : Nat), k ≤ xs.length ∧ i = .int .i64 k ∧ wr = ext w E d) (fun i _ => xs.length - (intOf i).toNat)
  case atStart => exact ⟨0, #[], w.drawn, by omega, rfl, by simp [ext]⟩
  case round =>
    obtain ⟨k, E, d, hk, rfl, rfl⟩ := hrel
    by_cases hlt : k < xs.length
    · obtain ⟨b, off, x, cs, Gk, rfl, hx, hr, _, _, hb, hC⟩ := HS.out.at_ hlt
      obtain ⟨b', off', x', cs', Gk', rfl, hx', hr', _, _, hb', hC'⟩ := HS'.out.at_ hlt
      have ex : x = x' := by rw [hx] at hx'; exact Option.some.inj hx'
      clear hx hx'
      subst ex
      have _ := hb'
      · skip
        have HR := Lib.hid (Held.mk hr)
        have HR' := Lib.hid (Held.mk hr')
        obtain ⟨x1, x2, x3, x4⟩ := x
        obtain ⟨_, _, _, _, qx1, hr', rfl, rfl⟩ := hr
        obtain ⟨rfl, ix1, rfl⟩ := qx1
        obtain ⟨_, _, _, _, qx2, hr'', rfl, rfl⟩ := hr'
        obtain ⟨rfl, ix2, rfl⟩ := qx2
        obtain ⟨_, _, _, _, qx3, hr''', rfl, rfl⟩ := hr''
        obtain ⟨rfl, ix3, rfl⟩ := qx3
        obtain ⟨rfl, gx4, rfl⟩ := hr'''
        obtain ⟨_, _, _, _, qx1, hr'', rfl, rfl⟩ := hr'
        obtain ⟨rfl, ix1, rfl⟩ := qx1
        obtain ⟨_, _, _, _, qx2, hr''', rfl, rfl⟩ := hr''
        obtain ⟨rfl, ix2, rfl⟩ := qx2
        obtain ⟨_, _, _, _, qx3, hr'''', rfl, rfl⟩ := hr'''
        obtain ⟨rfl, ix3, rfl⟩ := qx3
        obtain ⟨rfl, gx4, rfl⟩ := hr''''
        have p0 : w.cell? ⟨b, off + k * 4, none⟩ = some (.int .i64 x1) := (hC 0 _ rfl).1
        have p1 : w.cell? ⟨b, off + k * 4 + 1, none⟩ = some (.int .i64 x2) := (hC 1 _ rfl).1
        have p2 : w.cell? ⟨b, off + k * 4 + 2, none⟩ = some (.int .i64 x3) := (hC 2 _ rfl).1
        have p3 : w.cell? ⟨b, off + k * 4 + 3, none⟩ = some (.string x4) := (hC 3 _ rfl).1
        have q0 : w.cell? ⟨b', off' + k * 4, none⟩ = some (.int .i64 x1) := (hC' 0 _ rfl).1
        have q1 : w.cell? ⟨b', off' + k * 4 + 1, none⟩ = some (.int .i64 x2) := (hC' 1 _ rfl).1
        have q2 : w.cell? ⟨b', off' + k * 4 + 2, none⟩ = some (.int .i64 x3) := (hC' 2 _ rfl).1
        have q3 : w.cell? ⟨b', off' + k * 4 + 3, none⟩ = some (.string x4) := (hC' 3 _ rfl).1
        clear hC hC'
        go_wp2_with fail
        go_region_with (go_at_call 108; refine (l_eqNote (x1, x2, x3, x4) _ _ _ (by repeat (first | exact HR.out | with_reducible refine held_alloc ?_ _ | with_reducible refine held_ext ?_ _ _)) (by repeat (first | exact HR'.out | with_reducible refine held_alloc ?_ _ | with_reducible refine held_ext ?_ _ _))).mono ?_; rintro e _ ⟨rfl, E1, d1, rfl⟩)
        all_goals
          go_wp2
          go_roundw
          case rel => exact ⟨k + 1, E ++ E1, d1, by omega, by go_num, ext_ext _ _ _ _ _⟩
          case measure => simp [intOf]; omega
    · go_wp2
      go_ret
      exact RV.mk rfl (by repeat (first | exact Below.refl _ _ | refine bl_al ?_ _ | refine bl_ext ?_ _ _ | refine Below.drew ?_ | assumption | refine bl_tr ?_ (by assumption)))

set_option maxRecDepth 100000 in
set_option maxHeartbeats 2000000 in
theorem l_eqQueue (x : GQueue) (cs ds : List Value) (w : World) (h : Held w x cs) (k : Held w x ds) :
    Calls Try.prog 36 #[.agg cs.toArray, .agg ds.toArray] w (RV (.bool true) w) := by
  obtain ⟨F, h⟩ := h
  obtain ⟨F', k⟩ := k
  obtain ⟨x1, x2, x3⟩ := x
  obtain ⟨_, _, _, _, qx1, h', rfl, rfl⟩ := h
  have Rx1 := Lib.hid (Held.mk qx1)
  obtain ⟨Ax1, cx1, rfl, Sx1⟩ := qx1
  obtain ⟨_, _, _, _, qx2, h'', rfl, rfl⟩ := h'
  obtain ⟨rfl, rfl⟩ := qx2
  obtain ⟨rfl, rfl⟩ := h''
  obtain ⟨_, _, _, _, qx1, k', rfl, rfl⟩ := k
  have Rx1b := Lib.hid (Held.mk qx1)
  obtain ⟨Ax1b, cx1b, rfl, Sx1b⟩ := qx1
  obtain ⟨_, _, _, _, qx2, k'', rfl, rfl⟩ := k'
  obtain ⟨rfl, rfl⟩ := qx2
  obtain ⟨rfl, rfl⟩ := k''
  change Calls Try.prog 36 #[.agg #[.slice Ax1 x1.length cx1, .bool x2, .bool x3], .agg #[.slice Ax1b x1.length cx1b, .bool x2, .bool x3]] w _
  go_enter Try.func36, Try.ntmps36
  go_wp2_with (first | (go_at_call 37; refine (l_eqNoteS x1 _ _ _ (by repeat (first | exact Rx1.out | with_reducible refine held_alloc ?_ _ | with_reducible refine held_ext ?_ _ _)) (by repeat (first | exact Rx1b.out | with_reducible refine held_alloc ?_ _ | with_reducible refine held_ext ?_ _ _))).mono ?_; rintro e _ ⟨rfl, Ex1, dx1, rfl⟩))
  go_ret
  exact RV.mk rfl (by repeat (first | exact Below.refl _ _ | refine bl_al ?_ _ | refine bl_ext ?_ _ _ | refine Below.drew ?_ | assumption | refine bl_tr ?_ (by assumption)))

set_option maxRecDepth 100000 in
set_option maxHeartbeats 2000000 in
theorem l_eqIn (x : GIn) (cs ds : List Value) (w : World) (h : Held w x cs) (k : Held w x ds) :
    Calls Try.prog 98 #[.agg cs.toArray, .agg ds.toArray] w (RV (.bool true) w) := by
  obtain ⟨F, h⟩ := h
  obtain ⟨F', k⟩ := k
  obtain ⟨x1, x2⟩ := x
  obtain ⟨_, _, _, _, qx1, h', rfl, rfl⟩ := h
  obtain ⟨rfl, gx1, rfl⟩ := qx1
  obtain ⟨rfl, rfl⟩ := h'
  obtain ⟨_, _, _, _, qx1, k', rfl, rfl⟩ := k
  obtain ⟨rfl, gx1, rfl⟩ := qx1
  obtain ⟨rfl, rfl⟩ := k'
  change Calls Try.prog 98 #[.agg #[.string x1, .bool x2], .agg #[.string x1, .bool x2]] w _
  clear gx1
  clear gx1
  go_enter Try.func98, Try.ntmps98
  go_wp2
  go_ret
  exact RV.mk rfl (by repeat (first | exact Below.refl _ _ | refine bl_al ?_ _ | refine bl_ext ?_ _ _ | refine Below.drew ?_ | assumption | refine bl_tr ?_ (by assumption)))

set_option maxRecDepth 100000 in
set_option maxHeartbeats 2000000 in
theorem l_eqOut (x : GOut) (cs ds : List Value) (w : World) (h : Held w x cs) (k : Held w x ds) :
    Calls Try.prog 99 #[.agg cs.toArray, .agg ds.toArray] w (RV (.bool true) w) := by
  obtain ⟨F, h⟩ := h
  obtain ⟨F', k⟩ := k
  obtain ⟨x1, x2⟩ := x
  obtain ⟨_, _, _, _, qx1, h', rfl, rfl⟩ := h
  obtain ⟨rfl, gx1, rfl⟩ := qx1
  obtain ⟨rfl, gx2, rfl⟩ := h'
  obtain ⟨_, _, _, _, qx1, k', rfl, rfl⟩ := k
  obtain ⟨rfl, gx1, rfl⟩ := qx1
  obtain ⟨rfl, gx2, rfl⟩ := k'
  change Calls Try.prog 99 #[.agg #[.string x1, .string x2], .agg #[.string x1, .string x2]] w _
  clear gx1 gx2
  clear gx1 gx2
  go_enter Try.func99, Try.ntmps99
  go_wp2
  go_ret
  exact RV.mk rfl (by repeat (first | exact Below.refl _ _ | refine bl_al ?_ _ | refine bl_ext ?_ _ _ | refine Below.drew ?_ | assumption | refine bl_tr ?_ (by assumption)))


set_option maxRecDepth 100000 in
set_option maxHeartbeats 2000000 in
theorem l_eqCommand (x : GCommand) (cs ds : List Value) (w : World) (h : Held w x cs) (k : Held w x ds) :
    Calls Try.prog 50 #[.agg cs.toArray, .agg ds.toArray] w (RV (.bool true) w) := by
  obtain ⟨F, h⟩ := h
  obtain ⟨F', k⟩ := k
  obtain ⟨x1, x2, x3, x4, x5, x6, x7, x8, x9, ⟨x10, x11⟩⟩ := x
  obtain ⟨_, _, _, _, qx1, h', rfl, rfl⟩ := h
  obtain ⟨rfl, gx1, rfl⟩ := qx1
  obtain ⟨_, _, _, _, qx2, h'', rfl, rfl⟩ := h'
  obtain ⟨rfl, ix2, rfl⟩ := qx2
  obtain ⟨_, _, _, _, qx3, h''', rfl, rfl⟩ := h''
  obtain ⟨rfl, gx3, rfl⟩ := qx3
  obtain ⟨_, _, _, _, qx4, h'''', rfl, rfl⟩ := h'''
  obtain ⟨rfl, gx4, rfl⟩ := qx4
  obtain ⟨_, _, _, _, qx5, h''''', rfl, rfl⟩ := h''''
  obtain ⟨rfl, rfl⟩ := qx5
  obtain ⟨_, _, _, _, qx6, h'''''', rfl, rfl⟩ := h'''''
  have Rx6 := Lib.hid (Held.mk qx6)
  obtain ⟨Ax6, cx6, rfl, Sx6⟩ := qx6
  obtain ⟨_, _, _, _, qx7, h''''''', rfl, rfl⟩ := h''''''
  obtain ⟨rfl, ix7, rfl⟩ := qx7
  obtain ⟨_, _, _, _, qx8, h'''''''', rfl, rfl⟩ := h'''''''
  obtain ⟨rfl, ix8, rfl⟩ := qx8
  obtain ⟨_, _, _, _, qx9, h''''''''', rfl, rfl⟩ := h''''''''
  obtain ⟨rfl, gx9, rfl⟩ := qx9
  have RFilter_x10 := Lib.hid (Held.mk h''''''''')
  obtain ⟨_, _, _, _, ⟨rfl, rfl⟩, ⟨Ax11, cx11, rfl, Sx11⟩, rfl, rfl⟩ := h'''''''''
  obtain ⟨_, _, _, _, qx1, k', rfl, rfl⟩ := k
  obtain ⟨rfl, gx1, rfl⟩ := qx1
  obtain ⟨_, _, _, _, qx2, k'', rfl, rfl⟩ := k'
  obtain ⟨rfl, ix2, rfl⟩ := qx2
  obtain ⟨_, _, _, _, qx3, k''', rfl, rfl⟩ := k''
  obtain ⟨rfl, gx3, rfl⟩ := qx3
  obtain ⟨_, _, _, _, qx4, k'''', rfl, rfl⟩ := k'''
  obtain ⟨rfl, gx4, rfl⟩ := qx4
  obtain ⟨_, _, _, _, qx5, k''''', rfl, rfl⟩ := k''''
  obtain ⟨rfl, rfl⟩ := qx5
  obtain ⟨_, _, _, _, qx6, k'''''', rfl, rfl⟩ := k'''''
  have Rx6b := Lib.hid (Held.mk qx6)
  obtain ⟨Ax6b, cx6b, rfl, Sx6b⟩ := qx6
  obtain ⟨_, _, _, _, qx7, k''''''', rfl, rfl⟩ := k''''''
  obtain ⟨rfl, ix7, rfl⟩ := qx7
  obtain ⟨_, _, _, _, qx8, k'''''''', rfl, rfl⟩ := k'''''''
  obtain ⟨rfl, ix8, rfl⟩ := qx8
  obtain ⟨_, _, _, _, qx9, k''''''''', rfl, rfl⟩ := k''''''''
  obtain ⟨rfl, gx9, rfl⟩ := qx9
  have RFilter_x10b := Lib.hid (Held.mk k''''''''')
  obtain ⟨_, _, _, _, ⟨rfl, rfl⟩, ⟨Ax11b, cx11b, rfl, Sx11b⟩, rfl, rfl⟩ := k'''''''''
  change Calls Try.prog 50 #[.agg #[.string x1, .int .i64 x2, .string x3, .string x4, .bool x5, .slice Ax6 x6.length cx6, .int .i64 x7, .int .i64 x8, .string x9, .bool x10, .slice Ax11 x11.length cx11], .agg #[.string x1, .int .i64 x2, .string x3, .string x4, .bool x5, .slice Ax6b x6.length cx6b, .int .i64 x7, .int .i64 x8, .string x9, .bool x10, .slice Ax11b x11.length cx11b]] w _
  clear gx1 ix2 gx3 gx4 ix7 ix8 gx9
  clear gx1 ix2 gx3 gx4 ix7 ix8 gx9
  go_enter Try.func50, Try.ntmps50
  go_wp2_with (first | (go_at_call 126; refine (l_eqSpanS x6 _ _ _ (by repeat (first | exact Rx6.out | with_reducible refine held_alloc ?_ _ | with_reducible refine held_ext ?_ _ _)) (by repeat (first | exact Rx6b.out | with_reducible refine held_alloc ?_ _ | with_reducible refine held_ext ?_ _ _))).mono ?_; rintro e _ ⟨rfl, Ex6, dx6, rfl⟩) | (go_at_call 60; refine (l_eqFilter ((x10, x11) : GFilter) _ _ _ (by repeat (first | exact RFilter_x10.out | with_reducible refine held_alloc ?_ _ | with_reducible refine held_ext ?_ _ _)) (by repeat (first | exact RFilter_x10b.out | with_reducible refine held_alloc ?_ _ | with_reducible refine held_ext ?_ _ _))).mono ?_; rintro e _ ⟨rfl, EFilter_x10, dFilter_x10, rfl⟩))
  go_ret
  exact RV.mk rfl (by repeat (first | exact Below.refl _ _ | refine bl_al ?_ _ | refine bl_ext ?_ _ _ | refine Below.drew ?_ | assumption | refine bl_tr ?_ (by assumption)))

set_option maxRecDepth 100000 in
set_option maxHeartbeats 2000000 in
theorem l_eqSession (x : GSession) (cs ds : List Value) (w : World) (h : Held w x cs) (k : Held w x ds) :
    Calls Try.prog 27 #[.agg cs.toArray, .agg ds.toArray] w (RV (.bool true) w) := by
  obtain ⟨F, h⟩ := h
  obtain ⟨F', k⟩ := k
  obtain ⟨x1, x2, x3, x4, x5, ⟨x6, x7⟩, x8, x9, ⟨x10, x11, x12⟩, ⟨x13, x14⟩, ⟨x15, x16⟩, x17⟩ := x
  obtain ⟨_, _, _, _, qx1, h', rfl, rfl⟩ := h
  obtain ⟨rfl, rfl⟩ := qx1
  obtain ⟨_, _, _, _, qx2, h'', rfl, rfl⟩ := h'
  obtain ⟨rfl, ix2, rfl⟩ := qx2
  obtain ⟨_, _, _, _, qx3, h''', rfl, rfl⟩ := h''
  obtain ⟨rfl, ix3, rfl⟩ := qx3
  obtain ⟨_, _, _, _, qx4, h'''', rfl, rfl⟩ := h'''
  obtain ⟨rfl, ix4, rfl⟩ := qx4
  obtain ⟨_, _, _, _, qView_x5, h''''', rfl, rfl⟩ := h''''
  have RView_x5 := Lib.hid (Held.mk qView_x5)
  obtain ⟨Ax5, cx5, rfl, Sx5⟩ := qView_x5
  obtain ⟨_, _, _, _, qFilter_x6, h'''''', rfl, rfl⟩ := h'''''
  have RFilter_x6 := Lib.hid (Held.mk qFilter_x6)
  obtain ⟨_, _, _, _, ⟨rfl, rfl⟩, ⟨Ax7, cx7, rfl, Sx7⟩, rfl, rfl⟩ := qFilter_x6
  obtain ⟨_, _, _, _, qx8, h''''''', rfl, rfl⟩ := h''''''
  obtain ⟨rfl, gx8, rfl⟩ := qx8
  obtain ⟨_, _, _, _, qx9, h'''''''', rfl, rfl⟩ := h'''''''
  obtain ⟨rfl, gx9, rfl⟩ := qx9
  obtain ⟨_, _, _, _, qQueue_x10, h''''''''', rfl, rfl⟩ := h''''''''
  have RQueue_x10 := Lib.hid (Held.mk qQueue_x10)
  obtain ⟨_, _, _, _, ⟨Ax10, cx10, rfl, Sx10⟩, ⟨_, _, _, _, ⟨rfl, rfl⟩, ⟨rfl, rfl⟩, rfl, rfl⟩, rfl, rfl⟩ := qQueue_x10
  obtain ⟨_, _, _, _, qIn_x13, h'''''''''', rfl, rfl⟩ := h'''''''''
  have RIn_x13 := Lib.hid (Held.mk qIn_x13)
  obtain ⟨_, _, _, _, ⟨rfl, gx13, rfl⟩, ⟨rfl, rfl⟩, rfl, rfl⟩ := qIn_x13
  obtain ⟨_, _, _, _, qOut_x15, h''''''''''', rfl, rfl⟩ := h''''''''''
  have ROut_x15 := Lib.hid (Held.mk qOut_x15)
  obtain ⟨_, _, _, _, ⟨rfl, gx15, rfl⟩, ⟨rfl, gx16, rfl⟩, rfl, rfl⟩ := qOut_x15
  obtain ⟨rfl, ix17, rfl⟩ := h'''''''''''
  obtain ⟨_, _, _, _, qx1, k', rfl, rfl⟩ := k
  obtain ⟨rfl, rfl⟩ := qx1
  obtain ⟨_, _, _, _, qx2, k'', rfl, rfl⟩ := k'
  obtain ⟨rfl, ix2, rfl⟩ := qx2
  obtain ⟨_, _, _, _, qx3, k''', rfl, rfl⟩ := k''
  obtain ⟨rfl, ix3, rfl⟩ := qx3
  obtain ⟨_, _, _, _, qx4, k'''', rfl, rfl⟩ := k'''
  obtain ⟨rfl, ix4, rfl⟩ := qx4
  obtain ⟨_, _, _, _, qView_x5, k''''', rfl, rfl⟩ := k''''
  have RView_x5b := Lib.hid (Held.mk qView_x5)
  obtain ⟨Ax5b, cx5b, rfl, Sx5b⟩ := qView_x5
  obtain ⟨_, _, _, _, qFilter_x6, k'''''', rfl, rfl⟩ := k'''''
  have RFilter_x6b := Lib.hid (Held.mk qFilter_x6)
  obtain ⟨_, _, _, _, ⟨rfl, rfl⟩, ⟨Ax7b, cx7b, rfl, Sx7b⟩, rfl, rfl⟩ := qFilter_x6
  obtain ⟨_, _, _, _, qx8, k''''''', rfl, rfl⟩ := k''''''
  obtain ⟨rfl, gx8, rfl⟩ := qx8
  obtain ⟨_, _, _, _, qx9, k'''''''', rfl, rfl⟩ := k'''''''
  obtain ⟨rfl, gx9, rfl⟩ := qx9
  obtain ⟨_, _, _, _, qQueue_x10, k''''''''', rfl, rfl⟩ := k''''''''
  have RQueue_x10b := Lib.hid (Held.mk qQueue_x10)
  obtain ⟨_, _, _, _, ⟨Ax10b, cx10b, rfl, Sx10b⟩, ⟨_, _, _, _, ⟨rfl, rfl⟩, ⟨rfl, rfl⟩, rfl, rfl⟩, rfl, rfl⟩ := qQueue_x10
  obtain ⟨_, _, _, _, qIn_x13, k'''''''''', rfl, rfl⟩ := k'''''''''
  have RIn_x13b := Lib.hid (Held.mk qIn_x13)
  obtain ⟨_, _, _, _, ⟨rfl, gx13, rfl⟩, ⟨rfl, rfl⟩, rfl, rfl⟩ := qIn_x13
  obtain ⟨_, _, _, _, qOut_x15, k''''''''''', rfl, rfl⟩ := k''''''''''
  have ROut_x15b := Lib.hid (Held.mk qOut_x15)
  obtain ⟨_, _, _, _, ⟨rfl, gx15, rfl⟩, ⟨rfl, gx16, rfl⟩, rfl, rfl⟩ := qOut_x15
  obtain ⟨rfl, ix17, rfl⟩ := k'''''''''''
  change Calls Try.prog 27 #[.agg #[.bool x1, .int .i64 x2, .int .i64 x3, .int .i64 x4, .slice Ax5 x5.length cx5, .bool x6, .slice Ax7 x7.length cx7, .string x8, .string x9, .slice Ax10 x10.length cx10, .bool x11, .bool x12, .string x13, .bool x14, .string x15, .string x16, .int .i64 x17], .agg #[.bool x1, .int .i64 x2, .int .i64 x3, .int .i64 x4, .slice Ax5b x5.length cx5b, .bool x6, .slice Ax7b x7.length cx7b, .string x8, .string x9, .slice Ax10b x10.length cx10b, .bool x11, .bool x12, .string x13, .bool x14, .string x15, .string x16, .int .i64 x17]] w _
  clear ix2 ix3 ix4 gx8 gx9 gx13 gx15 gx16 ix17
  clear ix2 ix3 ix4 gx8 gx9 gx13 gx15 gx16 ix17
  go_enter Try.func27, Try.ntmps27
  go_wp2_with (first | (go_at_call 51; refine (l_eqView (x5 : GView) _ _ _ (by repeat (first | exact RView_x5.out | with_reducible refine held_alloc ?_ _ | with_reducible refine held_ext ?_ _ _)) (by repeat (first | exact RView_x5b.out | with_reducible refine held_alloc ?_ _ | with_reducible refine held_ext ?_ _ _))).mono ?_; rintro e _ ⟨rfl, EView_x5, dView_x5, rfl⟩) | (go_at_call 60; refine (l_eqFilter ((x6, x7) : GFilter) _ _ _ (by repeat (first | exact RFilter_x6.out | with_reducible refine held_alloc ?_ _ | with_reducible refine held_ext ?_ _ _)) (by repeat (first | exact RFilter_x6b.out | with_reducible refine held_alloc ?_ _ | with_reducible refine held_ext ?_ _ _))).mono ?_; rintro e _ ⟨rfl, EFilter_x6, dFilter_x6, rfl⟩) | (go_at_call 36; refine (l_eqQueue ((x10, x11, x12) : GQueue) _ _ _ (by repeat (first | exact RQueue_x10.out | with_reducible refine held_alloc ?_ _ | with_reducible refine held_ext ?_ _ _)) (by repeat (first | exact RQueue_x10b.out | with_reducible refine held_alloc ?_ _ | with_reducible refine held_ext ?_ _ _))).mono ?_; rintro e _ ⟨rfl, EQueue_x10, dQueue_x10, rfl⟩) | (go_at_call 98; refine (l_eqIn ((x13, x14) : GIn) _ _ _ (by repeat (first | exact RIn_x13.out | with_reducible refine held_alloc ?_ _ | with_reducible refine held_ext ?_ _ _)) (by repeat (first | exact RIn_x13b.out | with_reducible refine held_alloc ?_ _ | with_reducible refine held_ext ?_ _ _))).mono ?_; rintro e _ ⟨rfl, EIn_x13, dIn_x13, rfl⟩) | (go_at_call 99; refine (l_eqOut ((x15, x16) : GOut) _ _ _ (by repeat (first | exact ROut_x15.out | with_reducible refine held_alloc ?_ _ | with_reducible refine held_ext ?_ _ _)) (by repeat (first | exact ROut_x15b.out | with_reducible refine held_alloc ?_ _ | with_reducible refine held_ext ?_ _ _))).mono ?_; rintro e _ ⟨rfl, EOut_x15, dOut_x15, rfl⟩))
  go_ret
  exact RV.mk rfl (by repeat (first | exact Below.refl _ _ | refine bl_al ?_ _ | refine bl_ext ?_ _ _ | refine Below.drew ?_ | assumption | refine bl_tr ?_ (by assumption)))

set_option maxRecDepth 100000 in
set_option maxHeartbeats 1000000 in
theorem l_eqSessionS (xs : (List GSession)) (v u : Value) (w : World) (h : Held w xs [v]) (k : Held w xs [u]) :
    Calls Try.prog 152 #[v, u] w (RV (.bool true) w) := by
  obtain ⟨F, A, c, e, S⟩ := h
  obtain rfl : v = .slice A xs.length c := by simpa using e
  have hl : xs.length ≤ c := S.1
  have hm := le63 S.2.1
  have HS := Lib.hid S
  clear S e
  obtain ⟨F', A', c', e, S⟩ := k
  obtain rfl : u = .slice A' xs.length c' := by simpa using e
  have HS' := Lib.hid S
  clear S e
  go_enter Try.func152, Try.ntmps152
  go_wp2
  go_loopw [5] (fun i wr => ∃ (k : Nat) (E : Array Obj) (d : Nat), k ≤ xs.length ∧ i = .int .i64 k ∧ wr = ext w E d) (fun i _ => xs.length - (intOf i).toNat)
  case atStart => exact ⟨0, #[], w.drawn, by omega, rfl, by simp [ext]⟩
  case round =>
    obtain ⟨k, E, d, hk, rfl, rfl⟩ := hrel
    by_cases hlt : k < xs.length
    · obtain ⟨b, off, x, cs, Gk, rfl, hx, hr, _, _, hb, hC⟩ := HS.out.at_ hlt
      obtain ⟨b', off', x', cs', Gk', rfl, hx', hr', _, _, hb', hC'⟩ := HS'.out.at_ hlt
      have ex : x = x' := by rw [hx] at hx'; exact Option.some.inj hx'
      clear hx hx'
      subst ex
      have _ := hb'
      · skip
        have HR := Lib.hid (Held.mk hr)
        have HR' := Lib.hid (Held.mk hr')
        obtain ⟨x1, x2, x3, x4, x5, ⟨x6, x7⟩, x8, x9, ⟨x10, x11, x12⟩, ⟨x13, x14⟩, ⟨x15, x16⟩, x17⟩ := x
        obtain ⟨_, _, _, _, qx1, hr', rfl, rfl⟩ := hr
        obtain ⟨rfl, rfl⟩ := qx1
        obtain ⟨_, _, _, _, qx2, hr'', rfl, rfl⟩ := hr'
        obtain ⟨rfl, ix2, rfl⟩ := qx2
        obtain ⟨_, _, _, _, qx3, hr''', rfl, rfl⟩ := hr''
        obtain ⟨rfl, ix3, rfl⟩ := qx3
        obtain ⟨_, _, _, _, qx4, hr'''', rfl, rfl⟩ := hr'''
        obtain ⟨rfl, ix4, rfl⟩ := qx4
        obtain ⟨_, _, _, _, qView_x5, hr''''', rfl, rfl⟩ := hr''''
        have RView_x5 := Lib.hid (Held.mk qView_x5)
        obtain ⟨Ax5, cx5, rfl, Sx5⟩ := qView_x5
        obtain ⟨_, _, _, _, qFilter_x6, hr'''''', rfl, rfl⟩ := hr'''''
        have RFilter_x6 := Lib.hid (Held.mk qFilter_x6)
        obtain ⟨_, _, _, _, ⟨rfl, rfl⟩, ⟨Ax7, cx7, rfl, Sx7⟩, rfl, rfl⟩ := qFilter_x6
        obtain ⟨_, _, _, _, qx8, hr''''''', rfl, rfl⟩ := hr''''''
        obtain ⟨rfl, gx8, rfl⟩ := qx8
        obtain ⟨_, _, _, _, qx9, hr'''''''', rfl, rfl⟩ := hr'''''''
        obtain ⟨rfl, gx9, rfl⟩ := qx9
        obtain ⟨_, _, _, _, qQueue_x10, hr''''''''', rfl, rfl⟩ := hr''''''''
        have RQueue_x10 := Lib.hid (Held.mk qQueue_x10)
        obtain ⟨_, _, _, _, ⟨Ax10, cx10, rfl, Sx10⟩, ⟨_, _, _, _, ⟨rfl, rfl⟩, ⟨rfl, rfl⟩, rfl, rfl⟩, rfl, rfl⟩ := qQueue_x10
        obtain ⟨_, _, _, _, qIn_x13, hr'''''''''', rfl, rfl⟩ := hr'''''''''
        have RIn_x13 := Lib.hid (Held.mk qIn_x13)
        obtain ⟨_, _, _, _, ⟨rfl, gx13, rfl⟩, ⟨rfl, rfl⟩, rfl, rfl⟩ := qIn_x13
        obtain ⟨_, _, _, _, qOut_x15, hr''''''''''', rfl, rfl⟩ := hr''''''''''
        have ROut_x15 := Lib.hid (Held.mk qOut_x15)
        obtain ⟨_, _, _, _, ⟨rfl, gx15, rfl⟩, ⟨rfl, gx16, rfl⟩, rfl, rfl⟩ := qOut_x15
        obtain ⟨rfl, ix17, rfl⟩ := hr'''''''''''
        obtain ⟨_, _, _, _, qx1, hr'', rfl, rfl⟩ := hr'
        obtain ⟨rfl, rfl⟩ := qx1
        obtain ⟨_, _, _, _, qx2, hr''', rfl, rfl⟩ := hr''
        obtain ⟨rfl, ix2, rfl⟩ := qx2
        obtain ⟨_, _, _, _, qx3, hr'''', rfl, rfl⟩ := hr'''
        obtain ⟨rfl, ix3, rfl⟩ := qx3
        obtain ⟨_, _, _, _, qx4, hr''''', rfl, rfl⟩ := hr''''
        obtain ⟨rfl, ix4, rfl⟩ := qx4
        obtain ⟨_, _, _, _, qView_x5, hr'''''', rfl, rfl⟩ := hr'''''
        have RView_x5b := Lib.hid (Held.mk qView_x5)
        obtain ⟨Ax5b, cx5b, rfl, Sx5b⟩ := qView_x5
        obtain ⟨_, _, _, _, qFilter_x6, hr''''''', rfl, rfl⟩ := hr''''''
        have RFilter_x6b := Lib.hid (Held.mk qFilter_x6)
        obtain ⟨_, _, _, _, ⟨rfl, rfl⟩, ⟨Ax7b, cx7b, rfl, Sx7b⟩, rfl, rfl⟩ := qFilter_x6
        obtain ⟨_, _, _, _, qx8, hr'''''''', rfl, rfl⟩ := hr'''''''
        obtain ⟨rfl, gx8, rfl⟩ := qx8
        obtain ⟨_, _, _, _, qx9, hr''''''''', rfl, rfl⟩ := hr''''''''
        obtain ⟨rfl, gx9, rfl⟩ := qx9
        obtain ⟨_, _, _, _, qQueue_x10, hr'''''''''', rfl, rfl⟩ := hr'''''''''
        have RQueue_x10b := Lib.hid (Held.mk qQueue_x10)
        obtain ⟨_, _, _, _, ⟨Ax10b, cx10b, rfl, Sx10b⟩, ⟨_, _, _, _, ⟨rfl, rfl⟩, ⟨rfl, rfl⟩, rfl, rfl⟩, rfl, rfl⟩ := qQueue_x10
        obtain ⟨_, _, _, _, qIn_x13, hr''''''''''', rfl, rfl⟩ := hr''''''''''
        have RIn_x13b := Lib.hid (Held.mk qIn_x13)
        obtain ⟨_, _, _, _, ⟨rfl, gx13, rfl⟩, ⟨rfl, rfl⟩, rfl, rfl⟩ := qIn_x13
        obtain ⟨_, _, _, _, qOut_x15, hr'''''''''''', rfl, rfl⟩ := hr'''''''''''
        have ROut_x15b := Lib.hid (Held.mk qOut_x15)
        obtain ⟨_, _, _, _, ⟨rfl, gx15, rfl⟩, ⟨rfl, gx16, rfl⟩, rfl, rfl⟩ := qOut_x15
        obtain ⟨rfl, ix17, rfl⟩ := hr''''''''''''
        have p0 : w.cell? ⟨b, off + k * 17, none⟩ = some (.bool x1) := (hC 0 _ rfl).1
        have p1 : w.cell? ⟨b, off + k * 17 + 1, none⟩ = some (.int .i64 x2) := (hC 1 _ rfl).1
        have p2 : w.cell? ⟨b, off + k * 17 + 2, none⟩ = some (.int .i64 x3) := (hC 2 _ rfl).1
        have p3 : w.cell? ⟨b, off + k * 17 + 3, none⟩ = some (.int .i64 x4) := (hC 3 _ rfl).1
        have p4 : w.cell? ⟨b, off + k * 17 + 4, none⟩ = some (.slice Ax5 x5.length cx5) := (hC 4 _ rfl).1
        have p5 : w.cell? ⟨b, off + k * 17 + 5, none⟩ = some (.bool x6) := (hC 5 _ rfl).1
        have p6 : w.cell? ⟨b, off + k * 17 + 6, none⟩ = some (.slice Ax7 x7.length cx7) := (hC 6 _ rfl).1
        have p7 : w.cell? ⟨b, off + k * 17 + 7, none⟩ = some (.string x8) := (hC 7 _ rfl).1
        have p8 : w.cell? ⟨b, off + k * 17 + 8, none⟩ = some (.string x9) := (hC 8 _ rfl).1
        have p9 : w.cell? ⟨b, off + k * 17 + 9, none⟩ = some (.slice Ax10 x10.length cx10) := (hC 9 _ rfl).1
        have p10 : w.cell? ⟨b, off + k * 17 + 10, none⟩ = some (.bool x11) := (hC 10 _ rfl).1
        have p11 : w.cell? ⟨b, off + k * 17 + 11, none⟩ = some (.bool x12) := (hC 11 _ rfl).1
        have p12 : w.cell? ⟨b, off + k * 17 + 12, none⟩ = some (.string x13) := (hC 12 _ rfl).1
        have p13 : w.cell? ⟨b, off + k * 17 + 13, none⟩ = some (.bool x14) := (hC 13 _ rfl).1
        have p14 : w.cell? ⟨b, off + k * 17 + 14, none⟩ = some (.string x15) := (hC 14 _ rfl).1
        have p15 : w.cell? ⟨b, off + k * 17 + 15, none⟩ = some (.string x16) := (hC 15 _ rfl).1
        have p16 : w.cell? ⟨b, off + k * 17 + 16, none⟩ = some (.int .i64 x17) := (hC 16 _ rfl).1
        have q0 : w.cell? ⟨b', off' + k * 17, none⟩ = some (.bool x1) := (hC' 0 _ rfl).1
        have q1 : w.cell? ⟨b', off' + k * 17 + 1, none⟩ = some (.int .i64 x2) := (hC' 1 _ rfl).1
        have q2 : w.cell? ⟨b', off' + k * 17 + 2, none⟩ = some (.int .i64 x3) := (hC' 2 _ rfl).1
        have q3 : w.cell? ⟨b', off' + k * 17 + 3, none⟩ = some (.int .i64 x4) := (hC' 3 _ rfl).1
        have q4 : w.cell? ⟨b', off' + k * 17 + 4, none⟩ = some (.slice Ax5b x5.length cx5b) := (hC' 4 _ rfl).1
        have q5 : w.cell? ⟨b', off' + k * 17 + 5, none⟩ = some (.bool x6) := (hC' 5 _ rfl).1
        have q6 : w.cell? ⟨b', off' + k * 17 + 6, none⟩ = some (.slice Ax7b x7.length cx7b) := (hC' 6 _ rfl).1
        have q7 : w.cell? ⟨b', off' + k * 17 + 7, none⟩ = some (.string x8) := (hC' 7 _ rfl).1
        have q8 : w.cell? ⟨b', off' + k * 17 + 8, none⟩ = some (.string x9) := (hC' 8 _ rfl).1
        have q9 : w.cell? ⟨b', off' + k * 17 + 9, none⟩ = some (.slice Ax10b x10.length cx10b) := (hC' 9 _ rfl).1
        have q10 : w.cell? ⟨b', off' + k * 17 + 10, none⟩ = some (.bool x11) := (hC' 10 _ rfl).1
        have q11 : w.cell? ⟨b', off' + k * 17 + 11, none⟩ = some (.bool x12) := (hC' 11 _ rfl).1
        have q12 : w.cell? ⟨b', off' + k * 17 + 12, none⟩ = some (.string x13) := (hC' 12 _ rfl).1
        have q13 : w.cell? ⟨b', off' + k * 17 + 13, none⟩ = some (.bool x14) := (hC' 13 _ rfl).1
        have q14 : w.cell? ⟨b', off' + k * 17 + 14, none⟩ = some (.string x15) := (hC' 14 _ rfl).1
        have q15 : w.cell? ⟨b', off' + k * 17 + 15, none⟩ = some (.string x16) := (hC' 15 _ rfl).1
        have q16 : w.cell? ⟨b', off' + k * 17 + 16, none⟩ = some (.int .i64 x17) := (hC' 16 _ rfl).1
        clear hC hC'
        go_wp2_with fail
        go_region_with (go_at_call 27; refine (l_eqSession (x1, x2, x3, x4, x5, (x6, x7), x8, x9, (x10, x11, x12), (x13, x14), (x15, x16), x17) _ _ _ (by repeat (first | exact HR.out | with_reducible refine held_alloc ?_ _ | with_reducible refine held_ext ?_ _ _)) (by repeat (first | exact HR'.out | with_reducible refine held_alloc ?_ _ | with_reducible refine held_ext ?_ _ _))).mono ?_; rintro e _ ⟨rfl, E1, d1, rfl⟩)
        all_goals
          go_wp2
          go_roundw
          case rel => exact ⟨k + 1, E ++ E1, d1, by omega, by go_num, ext_ext _ _ _ _ _⟩
          case measure => simp [intOf]; omega
    · go_wp2
      go_ret
      exact RV.mk rfl (by repeat (first | exact Below.refl _ _ | refine bl_al ?_ _ | refine bl_ext ?_ _ _ | refine Below.drew ?_ | assumption | refine bl_tr ?_ (by assumption)))

set_option maxRecDepth 100000 in
set_option maxHeartbeats 2000000 in
theorem l_eqServer (x : GServer) (cs ds : List Value) (w : World) (h : Held w x cs) (k : Held w x ds) :
    Calls Try.prog 73 #[.agg cs.toArray, .agg ds.toArray] w (RV (.bool true) w) := by
  obtain ⟨F, h⟩ := h
  obtain ⟨F', k⟩ := k
  obtain ⟨⟨x1, x2, x3⟩, x4⟩ := x
  obtain ⟨_, _, _, _, qStore_x1, h', rfl, rfl⟩ := h
  have RStore_x1 := Lib.hid (Held.mk qStore_x1)
  obtain ⟨_, _, _, _, ⟨Ax1, cx1, rfl, Sx1⟩, ⟨_, _, _, _, ⟨Ax2, cx2, rfl, Sx2⟩, ⟨rfl, ix3, rfl⟩, rfl, rfl⟩, rfl, rfl⟩ := qStore_x1
  have Rx4 := Lib.hid (Held.mk h')
  obtain ⟨Ax4, cx4, rfl, Sx4⟩ := h'
  obtain ⟨_, _, _, _, qStore_x1, k', rfl, rfl⟩ := k
  have RStore_x1b := Lib.hid (Held.mk qStore_x1)
  obtain ⟨_, _, _, _, ⟨Ax1b, cx1b, rfl, Sx1b⟩, ⟨_, _, _, _, ⟨Ax2b, cx2b, rfl, Sx2b⟩, ⟨rfl, ix3, rfl⟩, rfl, rfl⟩, rfl, rfl⟩ := qStore_x1
  have Rx4b := Lib.hid (Held.mk k')
  obtain ⟨Ax4b, cx4b, rfl, Sx4b⟩ := k'
  change Calls Try.prog 73 #[.agg #[.slice Ax1 x1.length cx1, .slice Ax2 x2.length cx2, .int .i64 x3, .slice Ax4 x4.length cx4], .agg #[.slice Ax1b x1.length cx1b, .slice Ax2b x2.length cx2b, .int .i64 x3, .slice Ax4b x4.length cx4b]] w _
  clear ix3
  clear ix3
  go_enter Try.func73, Try.ntmps73
  go_wp2_with (first | (go_at_call 19; refine (l_eqStore ((x1, x2, x3) : GStore) _ _ _ (by repeat (first | exact RStore_x1.out | with_reducible refine held_alloc ?_ _ | with_reducible refine held_ext ?_ _ _)) (by repeat (first | exact RStore_x1b.out | with_reducible refine held_alloc ?_ _ | with_reducible refine held_ext ?_ _ _))).mono ?_; rintro e _ ⟨rfl, EStore_x1, dStore_x1, rfl⟩) | (go_at_call 152; refine (l_eqSessionS x4 _ _ _ (by repeat (first | exact Rx4.out | with_reducible refine held_alloc ?_ _ | with_reducible refine held_ext ?_ _ _)) (by repeat (first | exact Rx4b.out | with_reducible refine held_alloc ?_ _ | with_reducible refine held_ext ?_ _ _))).mono ?_; rintro e _ ⟨rfl, Ex4, dx4, rfl⟩))
  go_ret
  exact RV.mk rfl (by repeat (first | exact Below.refl _ _ | refine bl_al ?_ _ | refine bl_ext ?_ _ _ | refine Below.drew ?_ | assumption | refine bl_tr ?_ (by assumption)))



end Go.Proofs.Ytigakalkkaoflaa
