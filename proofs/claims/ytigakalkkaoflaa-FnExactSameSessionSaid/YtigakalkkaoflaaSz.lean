/-
  Contracts of the laws' functions szX: what is left of a room behind the letters and elements of a value.
  No condition but what the arguments' cells hold. Printed by gen_types.py.
-/
import Derived.Test.YtigakalkkaoflaaTypes
namespace Go.Proofs.Ytigakalkkaoflaa
open Go.ChangeShapes Go.WideShapes Go.ChangeAt Go.RowKit Go.Joins Go.Deep
open GoRep (rep bulk)
open GoMark (mrk cnt mrkI cntI)

set_option maxRecDepth 100000 in
set_option maxHeartbeats 1000000 in
theorem l_szStringS (xs : (List ByteArray)) (v : Value) (w : World) (h : Held w xs [v]) (n : Int) (h0 : 0 ≤ n) (h1 : n ≤ 1048576) :
    Calls Try.prog 251 #[v, .int .i64 n] w (RV (.int .i64 (szT n (bulk xs))) w) := by
  obtain ⟨F, A, c, e, S⟩ := h
  obtain rfl : v = .slice A xs.length c := by simpa using e
  have hl : xs.length ≤ c := S.1
  have hm := le63 S.2.1
  have HS := Lib.hid S
  clear S e
  have HB := Lib.hid (show bulk xs = xs.length + bulkL xs from rfl)
  by_cases hc : n < xs.length
  · go_enter Try.func251, Try.ntmps251
    go_wp2
    go_ret
    refine RV.mk (ret_int ?_) (by repeat (first | exact Below.refl _ _ | refine bl_al ?_ _ | refine bl_ext ?_ _ _ | refine Below.drew ?_ | assumption | refine bl_tr ?_ (by assumption)))
    rw [HB.out]
    simp only [szT]
    omega
  · go_enter Try.func251, Try.ntmps251
    go_wp2
    go_loopw [1, 5] (fun l i wr => ∃ (k : Nat) (E : Array Obj) (d : Nat), k ≤ xs.length ∧ (bulkL (xs.take k) : Int) ≤ n - xs.length ∧ i = .int .i64 k ∧ l = .int .i64 (n - xs.length - bulkL (xs.take k)) ∧ wr = ext w E d) (fun _ i _ => xs.length - (intOf i).toNat)
    case atStart => exact ⟨0, #[], w.drawn, by omega, by simp [bulkL]; omega, rfl, by simp [bulkL], by simp [ext]⟩
    case round =>
      obtain ⟨k, E, d, hk, hle, rfl, rfl, rfl⟩ := hrel
      by_cases hlt : k < xs.length
      · obtain ⟨b, off, x, cs, Gk, rfl, hx, hr, _, _, hb, hC⟩ := HS.out.at_ hlt
        have ht := bulkL_take_succ hx
        have HT := Lib.hid ht
        have HX := Lib.hid hx
        clear ht hx
        have c0 : w.cell? ⟨b, off + k, none⟩ = some (.string x) := by
          obtain ⟨rfl, _, _⟩ := hr
          have := (hC 0 _ rfl).1
          rwa [show off + k * GoRep.n ByteArray + 0 = off + k from by show off + k * 1 + 0 = off + k; omega] at this
        have hs : x.size ≤ 9223372036854775807 := le63 hr.2.1
        have M0 : bulk x = x.size := rfl
        obtain ⟨M, hM⟩ : ∃ M, x.size = M := ⟨_, rfl⟩
        have hB := bulkL_at HX.out
        rw [M0, hM] at hB
        have HT2 := Lib.hid (HT.out.trans (congrArg (bulkL (xs.take k) + ·) (M0.trans hM)))
        clear hC HT M0 hr
        rw [hM] at hs
        generalize bulkL (xs.take k) = B at *
        by_cases hf : n - xs.length - B < M
        · have z : n - xs.length - B - M < 0 := by omega
          go_wp2
          go_ret
          refine RV.mk (ret_int ?_) (by repeat (first | exact Below.refl _ _ | refine bl_al ?_ _ | refine bl_ext ?_ _ _ | refine Below.drew ?_ | assumption | refine bl_tr ?_ (by assumption)))
          rw [HB.out]
          exact (szT_lt (by omega)).symm
        · have z : ¬ n - xs.length - B - M < 0 := by omega
          have y : 0 ≤ n - xs.length - B - M := by omega
          go_wp2
          go_roundw
          case rel => exact ⟨k + 1, E, d, by omega, by rw [HT2.out]; omega, by go_num, by rw [HT2.out]; congr 1; omega, rfl⟩
          case measure => simp [intOf]; omega
      · have hkk : k = xs.length := by omega
        have HE := Lib.hid (show bulkL (xs.take k) = bulkL xs by rw [hkk, List.take_length])
        generalize bulkL (xs.take k) = B at *
        clear hkk
        go_wp2
        go_ret
        refine RV.mk (ret_int ?_) (by repeat (first | exact Below.refl _ _ | refine bl_al ?_ _ | refine bl_ext ?_ _ _ | refine Below.drew ?_ | assumption | refine bl_tr ?_ (by assumption)))
        have := HE.out
        rw [HB.out, szT_ge (by omega)]
        omega


set_option maxHeartbeats 1000000 in
theorem l_szToken (x : GToken) (cs : List Value) (w : World) (h : Held w x cs) (n : Int) (h0 : 0 ≤ n) (h1 : n ≤ 1048576) :
    Calls Try.prog 130 #[.agg cs.toArray, .int .i64 n] w (RV (.int .i64 (szT n (bulk x))) w) := by
  obtain ⟨F, h⟩ := h
  obtain ⟨x1, x2⟩ := x
  obtain ⟨_, _, _, _, qx1, h', rfl, rfl⟩ := h
  obtain ⟨rfl, ix1, rfl⟩ := qx1
  obtain ⟨rfl, gx2, rfl⟩ := h'
  have hsx2 : x2.size ≤ 9223372036854775807 := le63 gx2
  change Calls Try.prog 130 #[.agg #[.int .i64 x1, .string x2], .int .i64 n] w _
  have HB := Lib.hid (show bulk ((x1, x2) : GToken) = 0 + x2.size by first | rfl | (show 0 + (x2.size) = _; omega))
  clear gx2
  by_cases f0 : n < x2.size
  · have z0 : n - x2.size < 0 := by omega
    go_enter Try.func130, Try.ntmps130
    go_wp2
    go_ret
    refine RV.mk (ret_int ?_) (by repeat (first | exact Below.refl _ _ | refine bl_al ?_ _ | refine bl_ext ?_ _ _ | refine Below.drew ?_ | assumption | refine bl_tr ?_ (by assumption)))
    rw [HB.out]
    simp only [szT]
    omega
  · have z0 : ¬ n - x2.size < 0 := by omega
    have y0 : 0 ≤ n - x2.size := by omega
    go_enter Try.func130, Try.ntmps130
    go_wp2
    go_ret
    refine RV.mk (ret_int ?_) (by repeat (first | exact Below.refl _ _ | refine bl_al ?_ _ | refine bl_ext ?_ _ _ | refine Below.drew ?_ | assumption | refine bl_tr ?_ (by assumption)))
    rw [HB.out]
    simp only [szT]
    omega

set_option maxRecDepth 100000 in
set_option maxHeartbeats 1000000 in
theorem l_szTokenS (xs : (List GToken)) (v : Value) (w : World) (h : Held w xs [v]) (n : Int) (h0 : 0 ≤ n) (h1 : n ≤ 1048576) :
    Calls Try.prog 56 #[v, .int .i64 n] w (RV (.int .i64 (szT n (bulk xs))) w) := by
  obtain ⟨F, A, c, e, S⟩ := h
  obtain rfl : v = .slice A xs.length c := by simpa using e
  have hl : xs.length ≤ c := S.1
  have hm := le63 S.2.1
  have HS := Lib.hid S
  clear S e
  have HB := Lib.hid (show bulk xs = xs.length + bulkL xs from rfl)
  by_cases hc : n < xs.length
  · go_enter Try.func56, Try.ntmps56
    go_wp2
    go_ret
    refine RV.mk (ret_int ?_) (by repeat (first | exact Below.refl _ _ | refine bl_al ?_ _ | refine bl_ext ?_ _ _ | refine Below.drew ?_ | assumption | refine bl_tr ?_ (by assumption)))
    rw [HB.out]
    simp only [szT]
    omega
  · go_enter Try.func56, Try.ntmps56
    go_wp2
    go_loopw [1, 5] (fun l i wr => ∃ (k : Nat) (E : Array Obj) (d : Nat), k ≤ xs.length ∧ (bulkL (xs.take k) : Int) ≤ n - xs.length ∧ i = .int .i64 k ∧ l = .int .i64 (n - xs.length - bulkL (xs.take k)) ∧ wr = ext w E d) (fun _ i _ => xs.length - (intOf i).toNat)
    case atStart => exact ⟨0, #[], w.drawn, by omega, by simp [bulkL]; omega, rfl, by simp [bulkL], by simp [ext]⟩
    case round =>
      obtain ⟨k, E, d, hk, hle, rfl, rfl, rfl⟩ := hrel
      by_cases hlt : k < xs.length
      · obtain ⟨b, off, x, cs, Gk, rfl, hx, hr, _, _, hb, hC⟩ := HS.out.at_ hlt
        have ht := bulkL_take_succ hx
        have HT := Lib.hid ht
        have HX := Lib.hid hx
        clear ht hx
        have HR := Lib.hid (Held.mk hr)
        obtain ⟨x1, x2⟩ := x
        obtain ⟨_, _, _, _, qx1, hr', rfl, rfl⟩ := hr
        obtain ⟨rfl, ix1, rfl⟩ := qx1
        obtain ⟨rfl, gx2, rfl⟩ := hr'
        have hsx2 : x2.size ≤ 9223372036854775807 := le63 gx2
        have k0 : w.cell? ⟨b, off + k * 2, none⟩ = some (.int .i64 x1) := (hC 0 _ rfl).1
        have k1 : w.cell? ⟨b, off + k * 2 + 1, none⟩ = some (.string x2) := (hC 1 _ rfl).1
        clear hC
        have hB := bulkL_at HX.out
        generalize bulkL (xs.take k) = B at *
        obtain ⟨M, hM⟩ : ∃ M, bulk ((x1, x2) : GToken) = M := ⟨_, rfl⟩
        rw [hM] at hB
        have HT2 := Lib.hid (HT.out.trans (congrArg (B + ·) hM))
        clear HT
        by_cases hf : n - xs.length - B < M
        · have ez : szT (n - xs.length - B) M = -1 := szT_lt hf
          go_wp2_with (go_at_call 130; refine (l_szToken ((x1, x2)) _ _ (by repeat (first | exact HR.out | with_reducible refine held_alloc ?_ _ | with_reducible refine held_ext ?_ _ _)) _ (by omega) (by omega)).mono ?_; rintro e _ ⟨rfl, E1, d1, rfl⟩)
          go_ret
          refine RV.mk (ret_int ?_) (by repeat (first | exact Below.refl _ _ | refine bl_al ?_ _ | refine bl_ext ?_ _ _ | refine Below.drew ?_ | assumption | refine bl_tr ?_ (by assumption)))
          rw [HB.out]
          exact (szT_lt (by omega)).symm
        · have ez : szT (n - xs.length - B) M = n - xs.length - B - M := szT_ge (by omega)
          have y : 0 ≤ n - xs.length - B - M := by omega
          go_wp2_with (go_at_call 130; refine (l_szToken ((x1, x2)) _ _ (by repeat (first | exact HR.out | with_reducible refine held_alloc ?_ _ | with_reducible refine held_ext ?_ _ _)) _ (by omega) (by omega)).mono ?_; rintro e _ ⟨rfl, E1, d1, rfl⟩)
          go_roundw
          case rel => exact ⟨k + 1, E ++ E1, d1, by omega, by rw [HT2.out]; omega, by go_num, by rw [HT2.out]; congr 1; omega, ext_ext _ _ _ _ _⟩
          case measure => simp [intOf]; omega
      · have hkk : k = xs.length := by omega
        have HE := Lib.hid (show bulkL (xs.take k) = bulkL xs by rw [hkk, List.take_length])
        generalize bulkL (xs.take k) = B at *
        clear hkk
        go_wp2
        go_ret
        refine RV.mk (ret_int ?_) (by repeat (first | exact Below.refl _ _ | refine bl_al ?_ _ | refine bl_ext ?_ _ _ | refine Below.drew ?_ | assumption | refine bl_tr ?_ (by assumption)))
        have := HE.out
        rw [HB.out, szT_ge (by omega)]
        omega


set_option maxRecDepth 100000 in
set_option maxHeartbeats 1000000 in
theorem l_szSpanS (xs : (List GSpan)) (v : Value) (w : World) (h : Held w xs [v]) (n : Int) (h0 : 0 ≤ n) (h1 : n ≤ 1048576) :
    Calls Try.prog 116 #[v, .int .i64 n] w (RV (.int .i64 (szT n (bulk xs))) w) := by
  obtain ⟨F, A, c, e, S⟩ := h
  obtain rfl : v = .slice A xs.length c := by simpa using e
  have hl : xs.length ≤ c := S.1
  have hm := le63 S.2.1
  have HS := Lib.hid S
  clear S e
  have HB := Lib.hid (show bulk xs = xs.length + bulkL xs from rfl)
  by_cases hc : n < xs.length
  · go_enter Try.func116, Try.ntmps116
    go_wp2
    go_ret
    refine RV.mk (ret_int ?_) (by repeat (first | exact Below.refl _ _ | refine bl_al ?_ _ | refine bl_ext ?_ _ _ | refine Below.drew ?_ | assumption | refine bl_tr ?_ (by assumption)))
    rw [HB.out]
    simp only [szT]
    omega
  · have HZ := Lib.hid (show bulkL xs = 0 from bulkL_zero (fun _ => rfl) xs)
    have _ := HS
    go_enter Try.func116, Try.ntmps116
    go_wp2
    go_ret
    refine RV.mk (ret_int ?_) (by repeat (first | exact Below.refl _ _ | refine bl_al ?_ _ | refine bl_ext ?_ _ _ | refine Below.drew ?_ | assumption | refine bl_tr ?_ (by assumption)))
    have := HZ.out
    rw [HB.out, szT_ge (by omega)]
    omega

set_option maxHeartbeats 1000000 in
theorem l_szScope (x : GScope) (cs : List Value) (w : World) (h : Held w x cs) (n : Int) (h0 : 0 ≤ n) (h1 : n ≤ 1048576) :
    Calls Try.prog 232 #[.agg cs.toArray, .int .i64 n] w (RV (.int .i64 (szT n (bulk x))) w) := by
  obtain ⟨F, h⟩ := h
  obtain ⟨x1, x2, x3⟩ := x
  obtain ⟨_, _, _, _, qx1, h', rfl, rfl⟩ := h
  obtain ⟨rfl, ix1, rfl⟩ := qx1
  obtain ⟨_, _, _, _, qx2, h'', rfl, rfl⟩ := h'
  have Rx2 := Lib.hid (Held.mk qx2)
  obtain ⟨Ax2, cx2, rfl, Sx2⟩ := qx2
  obtain ⟨rfl, ix3, rfl⟩ := h''
  change Calls Try.prog 232 #[.agg #[.int .i64 x1, .slice Ax2 x2.length cx2, .int .i64 x3], .int .i64 n] w _
  obtain ⟨M1, hM1⟩ : ∃ M, bulk x2 = M := ⟨_, rfl⟩
  have HB := Lib.hid (show bulk ((x1, x2, x3) : GScope) = 0 + M1 by first | rfl | (show 0 + (bulk x2 + (0)) = _; omega))
  by_cases f0 : n < M1
  · have z0 : szT (n) M1 = -1 := szT_lt f0
    go_enter Try.func232, Try.ntmps232
    go_wp2_with (first | (go_at_call 251; refine (l_szStringS x2 _ _ (by repeat (first | exact Rx2.out | with_reducible refine held_alloc ?_ _ | with_reducible refine held_ext ?_ _ _)) _ (by omega) (by omega)).mono ?_; rintro e _ ⟨rfl, EM1, dM1, rfl⟩))
    go_ret
    refine RV.mk (ret_int ?_) (by repeat (first | exact Below.refl _ _ | refine bl_al ?_ _ | refine bl_ext ?_ _ _ | refine Below.drew ?_ | assumption | refine bl_tr ?_ (by assumption)))
    rw [HB.out]
    simp only [szT]
    omega
  · have z0 : szT (n) M1 = n - M1 := szT_ge (by omega)
    have y0 : 0 ≤ n - M1 := by omega
    go_enter Try.func232, Try.ntmps232
    go_wp2_with (first | (go_at_call 251; refine (l_szStringS x2 _ _ (by repeat (first | exact Rx2.out | with_reducible refine held_alloc ?_ _ | with_reducible refine held_ext ?_ _ _)) _ (by omega) (by omega)).mono ?_; rintro e _ ⟨rfl, EM1, dM1, rfl⟩))
    go_ret
    refine RV.mk (ret_int ?_) (by repeat (first | exact Below.refl _ _ | refine bl_al ?_ _ | refine bl_ext ?_ _ _ | refine Below.drew ?_ | assumption | refine bl_tr ?_ (by assumption)))
    rw [HB.out]
    simp only [szT]
    omega

set_option maxRecDepth 100000 in
set_option maxHeartbeats 1000000 in
theorem l_szScopeS (xs : (List GScope)) (v : Value) (w : World) (h : Held w xs [v]) (n : Int) (h0 : 0 ≤ n) (h1 : n ≤ 1048576) :
    Calls Try.prog 173 #[v, .int .i64 n] w (RV (.int .i64 (szT n (bulk xs))) w) := by
  obtain ⟨F, A, c, e, S⟩ := h
  obtain rfl : v = .slice A xs.length c := by simpa using e
  have hl : xs.length ≤ c := S.1
  have hm := le63 S.2.1
  have HS := Lib.hid S
  clear S e
  have HB := Lib.hid (show bulk xs = xs.length + bulkL xs from rfl)
  by_cases hc : n < xs.length
  · go_enter Try.func173, Try.ntmps173
    go_wp2
    go_ret
    refine RV.mk (ret_int ?_) (by repeat (first | exact Below.refl _ _ | refine bl_al ?_ _ | refine bl_ext ?_ _ _ | refine Below.drew ?_ | assumption | refine bl_tr ?_ (by assumption)))
    rw [HB.out]
    simp only [szT]
    omega
  · go_enter Try.func173, Try.ntmps173
    go_wp2
    go_loopw [1, 5] (fun l i wr => ∃ (k : Nat) (E : Array Obj) (d : Nat), k ≤ xs.length ∧ (bulkL (xs.take k) : Int) ≤ n - xs.length ∧ i = .int .i64 k ∧ l = .int .i64 (n - xs.length - bulkL (xs.take k)) ∧ wr = ext w E d) (fun _ i _ => xs.length - (intOf i).toNat)
    case atStart => exact ⟨0, #[], w.drawn, by omega, by simp [bulkL]; omega, rfl, by simp [bulkL], by simp [ext]⟩
    case round =>
      obtain ⟨k, E, d, hk, hle, rfl, rfl, rfl⟩ := hrel
      by_cases hlt : k < xs.length
      · obtain ⟨b, off, x, cs, Gk, rfl, hx, hr, _, _, hb, hC⟩ := HS.out.at_ hlt
        have ht := bulkL_take_succ hx
        have HT := Lib.hid ht
        have HX := Lib.hid hx
        clear ht hx
        have HR := Lib.hid (Held.mk hr)
        obtain ⟨x1, x2, x3⟩ := x
        obtain ⟨_, _, _, _, qx1, hr', rfl, rfl⟩ := hr
        obtain ⟨rfl, ix1, rfl⟩ := qx1
        obtain ⟨_, _, _, _, qx2, hr'', rfl, rfl⟩ := hr'
        have Rx2 := Lib.hid (Held.mk qx2)
        obtain ⟨Ax2, cx2, rfl, Sx2⟩ := qx2
        obtain ⟨rfl, ix3, rfl⟩ := hr''
        have k0 : w.cell? ⟨b, off + k * 3, none⟩ = some (.int .i64 x1) := (hC 0 _ rfl).1
        have k1 : w.cell? ⟨b, off + k * 3 + 1, none⟩ = some (.slice Ax2 x2.length cx2) := (hC 1 _ rfl).1
        have k2 : w.cell? ⟨b, off + k * 3 + 2, none⟩ = some (.int .i64 x3) := (hC 2 _ rfl).1
        clear hC
        have hB := bulkL_at HX.out
        generalize bulkL (xs.take k) = B at *
        obtain ⟨M, hM⟩ : ∃ M, bulk ((x1, x2, x3) : GScope) = M := ⟨_, rfl⟩
        rw [hM] at hB
        have HT2 := Lib.hid (HT.out.trans (congrArg (B + ·) hM))
        clear HT
        by_cases hf : n - xs.length - B < M
        · have ez : szT (n - xs.length - B) M = -1 := szT_lt hf
          go_wp2_with (go_at_call 232; refine (l_szScope ((x1, x2, x3)) _ _ (by repeat (first | exact HR.out | with_reducible refine held_alloc ?_ _ | with_reducible refine held_ext ?_ _ _)) _ (by omega) (by omega)).mono ?_; rintro e _ ⟨rfl, E1, d1, rfl⟩)
          go_ret
          refine RV.mk (ret_int ?_) (by repeat (first | exact Below.refl _ _ | refine bl_al ?_ _ | refine bl_ext ?_ _ _ | refine Below.drew ?_ | assumption | refine bl_tr ?_ (by assumption)))
          rw [HB.out]
          exact (szT_lt (by omega)).symm
        · have ez : szT (n - xs.length - B) M = n - xs.length - B - M := szT_ge (by omega)
          have y : 0 ≤ n - xs.length - B - M := by omega
          go_wp2_with (go_at_call 232; refine (l_szScope ((x1, x2, x3)) _ _ (by repeat (first | exact HR.out | with_reducible refine held_alloc ?_ _ | with_reducible refine held_ext ?_ _ _)) _ (by omega) (by omega)).mono ?_; rintro e _ ⟨rfl, E1, d1, rfl⟩)
          go_roundw
          case rel => exact ⟨k + 1, E ++ E1, d1, by omega, by rw [HT2.out]; omega, by go_num, by rw [HT2.out]; congr 1; omega, ext_ext _ _ _ _ _⟩
          case measure => simp [intOf]; omega
      · have hkk : k = xs.length := by omega
        have HE := Lib.hid (show bulkL (xs.take k) = bulkL xs by rw [hkk, List.take_length])
        generalize bulkL (xs.take k) = B at *
        clear hkk
        go_wp2
        go_ret
        refine RV.mk (ret_int ?_) (by repeat (first | exact Below.refl _ _ | refine bl_al ?_ _ | refine bl_ext ?_ _ _ | refine Below.drew ?_ | assumption | refine bl_tr ?_ (by assumption)))
        have := HE.out
        rw [HB.out, szT_ge (by omega)]
        omega

set_option maxHeartbeats 1000000 in
theorem l_szFilter (x : GFilter) (cs : List Value) (w : World) (h : Held w x cs) (n : Int) (h0 : 0 ≤ n) (h1 : n ≤ 1048576) :
    Calls Try.prog 90 #[.agg cs.toArray, .int .i64 n] w (RV (.int .i64 (szT n (bulk x))) w) := by
  obtain ⟨F, h⟩ := h
  obtain ⟨x1, x2⟩ := x
  obtain ⟨_, _, _, _, qx1, h', rfl, rfl⟩ := h
  obtain ⟨rfl, rfl⟩ := qx1
  have Rx2 := Lib.hid (Held.mk h')
  obtain ⟨Ax2, cx2, rfl, Sx2⟩ := h'
  change Calls Try.prog 90 #[.agg #[.bool x1, .slice Ax2 x2.length cx2], .int .i64 n] w _
  obtain ⟨M1, hM1⟩ : ∃ M, bulk x2 = M := ⟨_, rfl⟩
  have HB := Lib.hid (show bulk ((x1, x2) : GFilter) = 0 + M1 by first | rfl | (show 0 + (bulk x2) = _; omega))
  by_cases f0 : n < M1
  · have z0 : szT (n) M1 = -1 := szT_lt f0
    go_enter Try.func90, Try.ntmps90
    go_wp2_with (first | (go_at_call 173; refine (l_szScopeS x2 _ _ (by repeat (first | exact Rx2.out | with_reducible refine held_alloc ?_ _ | with_reducible refine held_ext ?_ _ _)) _ (by omega) (by omega)).mono ?_; rintro e _ ⟨rfl, EM1, dM1, rfl⟩))
    go_ret
    refine RV.mk (ret_int ?_) (by repeat (first | exact Below.refl _ _ | refine bl_al ?_ _ | refine bl_ext ?_ _ _ | refine Below.drew ?_ | assumption | refine bl_tr ?_ (by assumption)))
    rw [HB.out]
    simp only [szT]
    omega
  · have z0 : szT (n) M1 = n - M1 := szT_ge (by omega)
    have y0 : 0 ≤ n - M1 := by omega
    go_enter Try.func90, Try.ntmps90
    go_wp2_with (first | (go_at_call 173; refine (l_szScopeS x2 _ _ (by repeat (first | exact Rx2.out | with_reducible refine held_alloc ?_ _ | with_reducible refine held_ext ?_ _ _)) _ (by omega) (by omega)).mono ?_; rintro e _ ⟨rfl, EM1, dM1, rfl⟩))
    go_ret
    refine RV.mk (ret_int ?_) (by repeat (first | exact Below.refl _ _ | refine bl_al ?_ _ | refine bl_ext ?_ _ _ | refine Below.drew ?_ | assumption | refine bl_tr ?_ (by assumption)))
    rw [HB.out]
    simp only [szT]
    omega

set_option maxHeartbeats 1000000 in
theorem l_szMsg (x : GMsg) (cs : List Value) (w : World) (h : Held w x cs) (n : Int) (h0 : 0 ≤ n) (h1 : n ≤ 1048576) :
    Calls Try.prog 248 #[.agg cs.toArray, .int .i64 n] w (RV (.int .i64 (szT n (bulk x))) w) := by
  obtain ⟨F, h⟩ := h
  obtain ⟨x1, x2, x3⟩ := x
  obtain ⟨_, _, _, _, qx1, h', rfl, rfl⟩ := h
  obtain ⟨rfl, ix1, rfl⟩ := qx1
  obtain ⟨_, _, _, _, qx2, h'', rfl, rfl⟩ := h'
  obtain ⟨rfl, ix2, rfl⟩ := qx2
  obtain ⟨rfl, gx3, rfl⟩ := h''
  have hsx3 : x3.size ≤ 9223372036854775807 := le63 gx3
  change Calls Try.prog 248 #[.agg #[.int .i64 x1, .int .i64 x2, .string x3], .int .i64 n] w _
  have HB := Lib.hid (show bulk ((x1, x2, x3) : GMsg) = 0 + x3.size by first | rfl | (show 0 + (0 + (x3.size)) = _; omega))
  clear gx3
  by_cases f0 : n < x3.size
  · have z0 : n - x3.size < 0 := by omega
    go_enter Try.func248, Try.ntmps248
    go_wp2
    go_ret
    refine RV.mk (ret_int ?_) (by repeat (first | exact Below.refl _ _ | refine bl_al ?_ _ | refine bl_ext ?_ _ _ | refine Below.drew ?_ | assumption | refine bl_tr ?_ (by assumption)))
    rw [HB.out]
    simp only [szT]
    omega
  · have z0 : ¬ n - x3.size < 0 := by omega
    have y0 : 0 ≤ n - x3.size := by omega
    go_enter Try.func248, Try.ntmps248
    go_wp2
    go_ret
    refine RV.mk (ret_int ?_) (by repeat (first | exact Below.refl _ _ | refine bl_al ?_ _ | refine bl_ext ?_ _ _ | refine Below.drew ?_ | assumption | refine bl_tr ?_ (by assumption)))
    rw [HB.out]
    simp only [szT]
    omega

set_option maxRecDepth 100000 in
set_option maxHeartbeats 1000000 in
theorem l_szMsgS (xs : (List GMsg)) (v : Value) (w : World) (h : Held w xs [v]) (n : Int) (h0 : 0 ≤ n) (h1 : n ≤ 1048576) :
    Calls Try.prog 229 #[v, .int .i64 n] w (RV (.int .i64 (szT n (bulk xs))) w) := by
  obtain ⟨F, A, c, e, S⟩ := h
  obtain rfl : v = .slice A xs.length c := by simpa using e
  have hl : xs.length ≤ c := S.1
  have hm := le63 S.2.1
  have HS := Lib.hid S
  clear S e
  have HB := Lib.hid (show bulk xs = xs.length + bulkL xs from rfl)
  by_cases hc : n < xs.length
  · go_enter Try.func229, Try.ntmps229
    go_wp2
    go_ret
    refine RV.mk (ret_int ?_) (by repeat (first | exact Below.refl _ _ | refine bl_al ?_ _ | refine bl_ext ?_ _ _ | refine Below.drew ?_ | assumption | refine bl_tr ?_ (by assumption)))
    rw [HB.out]
    simp only [szT]
    omega
  · go_enter Try.func229, Try.ntmps229
    go_wp2
    go_loopw [1, 5] (fun l i wr => ∃ (k : Nat) (E : Array Obj) (d : Nat), k ≤ xs.length ∧ (bulkL (xs.take k) : Int) ≤ n - xs.length ∧ i = .int .i64 k ∧ l = .int .i64 (n - xs.length - bulkL (xs.take k)) ∧ wr = ext w E d) (fun _ i _ => xs.length - (intOf i).toNat)
    case atStart => exact ⟨0, #[], w.drawn, by omega, by simp [bulkL]; omega, rfl, by simp [bulkL], by simp [ext]⟩
    case round =>
      obtain ⟨k, E, d, hk, hle, rfl, rfl, rfl⟩ := hrel
      by_cases hlt : k < xs.length
      · obtain ⟨b, off, x, cs, Gk, rfl, hx, hr, _, _, hb, hC⟩ := HS.out.at_ hlt
        have ht := bulkL_take_succ hx
        have HT := Lib.hid ht
        have HX := Lib.hid hx
        clear ht hx
        have HR := Lib.hid (Held.mk hr)
        obtain ⟨x1, x2, x3⟩ := x
        obtain ⟨_, _, _, _, qx1, hr', rfl, rfl⟩ := hr
        obtain ⟨rfl, ix1, rfl⟩ := qx1
        obtain ⟨_, _, _, _, qx2, hr'', rfl, rfl⟩ := hr'
        obtain ⟨rfl, ix2, rfl⟩ := qx2
        obtain ⟨rfl, gx3, rfl⟩ := hr''
        have hsx3 : x3.size ≤ 9223372036854775807 := le63 gx3
        have k0 : w.cell? ⟨b, off + k * 3, none⟩ = some (.int .i64 x1) := (hC 0 _ rfl).1
        have k1 : w.cell? ⟨b, off + k * 3 + 1, none⟩ = some (.int .i64 x2) := (hC 1 _ rfl).1
        have k2 : w.cell? ⟨b, off + k * 3 + 2, none⟩ = some (.string x3) := (hC 2 _ rfl).1
        clear hC
        have hB := bulkL_at HX.out
        generalize bulkL (xs.take k) = B at *
        obtain ⟨M, hM⟩ : ∃ M, bulk ((x1, x2, x3) : GMsg) = M := ⟨_, rfl⟩
        rw [hM] at hB
        have HT2 := Lib.hid (HT.out.trans (congrArg (B + ·) hM))
        clear HT
        by_cases hf : n - xs.length - B < M
        · have ez : szT (n - xs.length - B) M = -1 := szT_lt hf
          go_wp2_with (go_at_call 248; refine (l_szMsg ((x1, x2, x3)) _ _ (by repeat (first | exact HR.out | with_reducible refine held_alloc ?_ _ | with_reducible refine held_ext ?_ _ _)) _ (by omega) (by omega)).mono ?_; rintro e _ ⟨rfl, E1, d1, rfl⟩)
          go_ret
          refine RV.mk (ret_int ?_) (by repeat (first | exact Below.refl _ _ | refine bl_al ?_ _ | refine bl_ext ?_ _ _ | refine Below.drew ?_ | assumption | refine bl_tr ?_ (by assumption)))
          rw [HB.out]
          exact (szT_lt (by omega)).symm
        · have ez : szT (n - xs.length - B) M = n - xs.length - B - M := szT_ge (by omega)
          have y : 0 ≤ n - xs.length - B - M := by omega
          go_wp2_with (go_at_call 248; refine (l_szMsg ((x1, x2, x3)) _ _ (by repeat (first | exact HR.out | with_reducible refine held_alloc ?_ _ | with_reducible refine held_ext ?_ _ _)) _ (by omega) (by omega)).mono ?_; rintro e _ ⟨rfl, E1, d1, rfl⟩)
          go_roundw
          case rel => exact ⟨k + 1, E ++ E1, d1, by omega, by rw [HT2.out]; omega, by go_num, by rw [HT2.out]; congr 1; omega, ext_ext _ _ _ _ _⟩
          case measure => simp [intOf]; omega
      · have hkk : k = xs.length := by omega
        have HE := Lib.hid (show bulkL (xs.take k) = bulkL xs by rw [hkk, List.take_length])
        generalize bulkL (xs.take k) = B at *
        clear hkk
        go_wp2
        go_ret
        refine RV.mk (ret_int ?_) (by repeat (first | exact Below.refl _ _ | refine bl_al ?_ _ | refine bl_ext ?_ _ _ | refine Below.drew ?_ | assumption | refine bl_tr ?_ (by assumption)))
        have := HE.out
        rw [HB.out, szT_ge (by omega)]
        omega

set_option maxHeartbeats 1000000 in
theorem l_szBox (x : GBox) (cs : List Value) (w : World) (h : Held w x cs) (n : Int) (h0 : 0 ≤ n) (h1 : n ≤ 1048576) :
    Calls Try.prog 164 #[.agg cs.toArray, .int .i64 n] w (RV (.int .i64 (szT n (bulk x))) w) := by
  obtain ⟨F, h⟩ := h
  obtain ⟨x1, x2, x3, x4⟩ := x
  obtain ⟨_, _, _, _, qx1, h', rfl, rfl⟩ := h
  obtain ⟨rfl, gx1, rfl⟩ := qx1
  obtain ⟨_, _, _, _, qx2, h'', rfl, rfl⟩ := h'
  obtain ⟨rfl, ix2, rfl⟩ := qx2
  obtain ⟨_, _, _, _, qx3, h''', rfl, rfl⟩ := h''
  obtain ⟨rfl, ix3, rfl⟩ := qx3
  have Rx4 := Lib.hid (Held.mk h''')
  obtain ⟨Ax4, cx4, rfl, Sx4⟩ := h'''
  have hsx1 : x1.size ≤ 9223372036854775807 := le63 gx1
  change Calls Try.prog 164 #[.agg #[.string x1, .int .i64 x2, .int .i64 x3, .slice Ax4 x4.length cx4], .int .i64 n] w _
  obtain ⟨M3, hM3⟩ : ∃ M, bulk x4 = M := ⟨_, rfl⟩
  have HB := Lib.hid (show bulk ((x1, x2, x3, x4) : GBox) = 0 + x1.size + M3 by first | rfl | (show x1.size + (0 + (0 + (bulk x4))) = _; omega))
  clear gx1
  by_cases f0 : n < x1.size
  · have z0 : n - x1.size < 0 := by omega
    go_enter Try.func164, Try.ntmps164
    go_wp2_with (first | (go_at_call 229; refine (l_szMsgS x4 _ _ (by repeat (first | exact Rx4.out | with_reducible refine held_alloc ?_ _ | with_reducible refine held_ext ?_ _ _)) _ (by omega) (by omega)).mono ?_; rintro e _ ⟨rfl, EM3, dM3, rfl⟩))
    go_ret
    refine RV.mk (ret_int ?_) (by repeat (first | exact Below.refl _ _ | refine bl_al ?_ _ | refine bl_ext ?_ _ _ | refine Below.drew ?_ | assumption | refine bl_tr ?_ (by assumption)))
    rw [HB.out]
    simp only [szT]
    omega
  · have z0 : ¬ n - x1.size < 0 := by omega
    have y0 : 0 ≤ n - x1.size := by omega
    by_cases f1 : n - x1.size < M3
    · have z1 : szT (n - x1.size) M3 = -1 := szT_lt f1
      go_enter Try.func164, Try.ntmps164
      go_wp2_with (first | (go_at_call 229; refine (l_szMsgS x4 _ _ (by repeat (first | exact Rx4.out | with_reducible refine held_alloc ?_ _ | with_reducible refine held_ext ?_ _ _)) _ (by omega) (by omega)).mono ?_; rintro e _ ⟨rfl, EM3, dM3, rfl⟩))
      go_ret
      refine RV.mk (ret_int ?_) (by repeat (first | exact Below.refl _ _ | refine bl_al ?_ _ | refine bl_ext ?_ _ _ | refine Below.drew ?_ | assumption | refine bl_tr ?_ (by assumption)))
      rw [HB.out]
      simp only [szT]
      omega
    · have z1 : szT (n - x1.size) M3 = n - x1.size - M3 := szT_ge (by omega)
      have y1 : 0 ≤ n - x1.size - M3 := by omega
      go_enter Try.func164, Try.ntmps164
      go_wp2_with (first | (go_at_call 229; refine (l_szMsgS x4 _ _ (by repeat (first | exact Rx4.out | with_reducible refine held_alloc ?_ _ | with_reducible refine held_ext ?_ _ _)) _ (by omega) (by omega)).mono ?_; rintro e _ ⟨rfl, EM3, dM3, rfl⟩))
      go_ret
      refine RV.mk (ret_int ?_) (by repeat (first | exact Below.refl _ _ | refine bl_al ?_ _ | refine bl_ext ?_ _ _ | refine Below.drew ?_ | assumption | refine bl_tr ?_ (by assumption)))
      rw [HB.out]
      simp only [szT]
      omega

set_option maxRecDepth 100000 in
set_option maxHeartbeats 1000000 in
theorem l_szBoxS (xs : (List GBox)) (v : Value) (w : World) (h : Held w xs [v]) (n : Int) (h0 : 0 ≤ n) (h1 : n ≤ 1048576) :
    Calls Try.prog 78 #[v, .int .i64 n] w (RV (.int .i64 (szT n (bulk xs))) w) := by
  obtain ⟨F, A, c, e, S⟩ := h
  obtain rfl : v = .slice A xs.length c := by simpa using e
  have hl : xs.length ≤ c := S.1
  have hm := le63 S.2.1
  have HS := Lib.hid S
  clear S e
  have HB := Lib.hid (show bulk xs = xs.length + bulkL xs from rfl)
  by_cases hc : n < xs.length
  · go_enter Try.func78, Try.ntmps78
    go_wp2
    go_ret
    refine RV.mk (ret_int ?_) (by repeat (first | exact Below.refl _ _ | refine bl_al ?_ _ | refine bl_ext ?_ _ _ | refine Below.drew ?_ | assumption | refine bl_tr ?_ (by assumption)))
    rw [HB.out]
    simp only [szT]
    omega
  · go_enter Try.func78, Try.ntmps78
    go_wp2
    go_loopw [1, 5] (fun l i wr => ∃ (k : Nat) (E : Array Obj) (d : Nat), k ≤ xs.length ∧ (bulkL (xs.take k) : Int) ≤ n - xs.length ∧ i = .int .i64 k ∧ l = .int .i64 (n - xs.length - bulkL (xs.take k)) ∧ wr = ext w E d) (fun _ i _ => xs.length - (intOf i).toNat)
    case atStart => exact ⟨0, #[], w.drawn, by omega, by simp [bulkL]; omega, rfl, by simp [bulkL], by simp [ext]⟩
    case round =>
      obtain ⟨k, E, d, hk, hle, rfl, rfl, rfl⟩ := hrel
      by_cases hlt : k < xs.length
      · obtain ⟨b, off, x, cs, Gk, rfl, hx, hr, _, _, hb, hC⟩ := HS.out.at_ hlt
        have ht := bulkL_take_succ hx
        have HT := Lib.hid ht
        have HX := Lib.hid hx
        clear ht hx
        have HR := Lib.hid (Held.mk hr)
        obtain ⟨x1, x2, x3, x4⟩ := x
        obtain ⟨_, _, _, _, qx1, hr', rfl, rfl⟩ := hr
        obtain ⟨rfl, gx1, rfl⟩ := qx1
        obtain ⟨_, _, _, _, qx2, hr'', rfl, rfl⟩ := hr'
        obtain ⟨rfl, ix2, rfl⟩ := qx2
        obtain ⟨_, _, _, _, qx3, hr''', rfl, rfl⟩ := hr''
        obtain ⟨rfl, ix3, rfl⟩ := qx3
        have Rx4 := Lib.hid (Held.mk hr''')
        obtain ⟨Ax4, cx4, rfl, Sx4⟩ := hr'''
        have hsx1 : x1.size ≤ 9223372036854775807 := le63 gx1
        have k0 : w.cell? ⟨b, off + k * 4, none⟩ = some (.string x1) := (hC 0 _ rfl).1
        have k1 : w.cell? ⟨b, off + k * 4 + 1, none⟩ = some (.int .i64 x2) := (hC 1 _ rfl).1
        have k2 : w.cell? ⟨b, off + k * 4 + 2, none⟩ = some (.int .i64 x3) := (hC 2 _ rfl).1
        have k3 : w.cell? ⟨b, off + k * 4 + 3, none⟩ = some (.slice Ax4 x4.length cx4) := (hC 3 _ rfl).1
        clear hC
        have hB := bulkL_at HX.out
        generalize bulkL (xs.take k) = B at *
        obtain ⟨M, hM⟩ : ∃ M, bulk ((x1, x2, x3, x4) : GBox) = M := ⟨_, rfl⟩
        rw [hM] at hB
        have HT2 := Lib.hid (HT.out.trans (congrArg (B + ·) hM))
        clear HT
        by_cases hf : n - xs.length - B < M
        · have ez : szT (n - xs.length - B) M = -1 := szT_lt hf
          go_wp2_with (go_at_call 164; refine (l_szBox ((x1, x2, x3, x4)) _ _ (by repeat (first | exact HR.out | with_reducible refine held_alloc ?_ _ | with_reducible refine held_ext ?_ _ _)) _ (by omega) (by omega)).mono ?_; rintro e _ ⟨rfl, E1, d1, rfl⟩)
          go_ret
          refine RV.mk (ret_int ?_) (by repeat (first | exact Below.refl _ _ | refine bl_al ?_ _ | refine bl_ext ?_ _ _ | refine Below.drew ?_ | assumption | refine bl_tr ?_ (by assumption)))
          rw [HB.out]
          exact (szT_lt (by omega)).symm
        · have ez : szT (n - xs.length - B) M = n - xs.length - B - M := szT_ge (by omega)
          have y : 0 ≤ n - xs.length - B - M := by omega
          go_wp2_with (go_at_call 164; refine (l_szBox ((x1, x2, x3, x4)) _ _ (by repeat (first | exact HR.out | with_reducible refine held_alloc ?_ _ | with_reducible refine held_ext ?_ _ _)) _ (by omega) (by omega)).mono ?_; rintro e _ ⟨rfl, E1, d1, rfl⟩)
          go_roundw
          case rel => exact ⟨k + 1, E ++ E1, d1, by omega, by rw [HT2.out]; omega, by go_num, by rw [HT2.out]; congr 1; omega, ext_ext _ _ _ _ _⟩
          case measure => simp [intOf]; omega
      · have hkk : k = xs.length := by omega
        have HE := Lib.hid (show bulkL (xs.take k) = bulkL xs by rw [hkk, List.take_length])
        generalize bulkL (xs.take k) = B at *
        clear hkk
        go_wp2
        go_ret
        refine RV.mk (ret_int ?_) (by repeat (first | exact Below.refl _ _ | refine bl_al ?_ _ | refine bl_ext ?_ _ _ | refine Below.drew ?_ | assumption | refine bl_tr ?_ (by assumption)))
        have := HE.out
        rw [HB.out, szT_ge (by omega)]
        omega

set_option maxHeartbeats 1000000 in
theorem l_szCommit (x : GCommit) (cs : List Value) (w : World) (h : Held w x cs) (n : Int) (h0 : 0 ≤ n) (h1 : n ≤ 1048576) :
    Calls Try.prog 165 #[.agg cs.toArray, .int .i64 n] w (RV (.int .i64 (szT n (bulk x))) w) := by
  obtain ⟨F, h⟩ := h
  obtain ⟨x1, x2, x3, x4, x5, x6⟩ := x
  obtain ⟨_, _, _, _, qx1, h', rfl, rfl⟩ := h
  obtain ⟨rfl, ix1, rfl⟩ := qx1
  obtain ⟨_, _, _, _, qx2, h'', rfl, rfl⟩ := h'
  obtain ⟨rfl, ix2, rfl⟩ := qx2
  obtain ⟨_, _, _, _, qx3, h''', rfl, rfl⟩ := h''
  obtain ⟨rfl, ix3, rfl⟩ := qx3
  obtain ⟨_, _, _, _, qx4, h'''', rfl, rfl⟩ := h'''
  obtain ⟨rfl, ix4, rfl⟩ := qx4
  obtain ⟨_, _, _, _, qx5, h''''', rfl, rfl⟩ := h''''
  obtain ⟨rfl, gx5, rfl⟩ := qx5
  obtain ⟨rfl, gx6, rfl⟩ := h'''''
  have hsx5 : x5.size ≤ 9223372036854775807 := le63 gx5
  have hsx6 : x6.size ≤ 9223372036854775807 := le63 gx6
  change Calls Try.prog 165 #[.agg #[.int .i64 x1, .int .i64 x2, .int .i64 x3, .int .i64 x4, .string x5, .string x6], .int .i64 n] w _
  have HB := Lib.hid (show bulk ((x1, x2, x3, x4, x5, x6) : GCommit) = 0 + x5.size + x6.size by first | rfl | (show 0 + (0 + (0 + (0 + (x5.size + (x6.size))))) = _; omega))
  clear gx5 gx6
  by_cases f0 : n < x5.size
  · have z0 : n - x5.size < 0 := by omega
    go_enter Try.func165, Try.ntmps165
    go_wp2
    go_ret
    refine RV.mk (ret_int ?_) (by repeat (first | exact Below.refl _ _ | refine bl_al ?_ _ | refine bl_ext ?_ _ _ | refine Below.drew ?_ | assumption | refine bl_tr ?_ (by assumption)))
    rw [HB.out]
    simp only [szT]
    omega
  · have z0 : ¬ n - x5.size < 0 := by omega
    have y0 : 0 ≤ n - x5.size := by omega
    by_cases f1 : n - x5.size < x6.size
    · have z1 : n - x5.size - x6.size < 0 := by omega
      go_enter Try.func165, Try.ntmps165
      go_wp2
      go_ret
      refine RV.mk (ret_int ?_) (by repeat (first | exact Below.refl _ _ | refine bl_al ?_ _ | refine bl_ext ?_ _ _ | refine Below.drew ?_ | assumption | refine bl_tr ?_ (by assumption)))
      rw [HB.out]
      simp only [szT]
      omega
    · have z1 : ¬ n - x5.size - x6.size < 0 := by omega
      have y1 : 0 ≤ n - x5.size - x6.size := by omega
      go_enter Try.func165, Try.ntmps165
      go_wp2
      go_ret
      refine RV.mk (ret_int ?_) (by repeat (first | exact Below.refl _ _ | refine bl_al ?_ _ | refine bl_ext ?_ _ _ | refine Below.drew ?_ | assumption | refine bl_tr ?_ (by assumption)))
      rw [HB.out]
      simp only [szT]
      omega

set_option maxRecDepth 100000 in
set_option maxHeartbeats 1000000 in
theorem l_szCommitS (xs : (List GCommit)) (v : Value) (w : World) (h : Held w xs [v]) (n : Int) (h0 : 0 ≤ n) (h1 : n ≤ 1048576) :
    Calls Try.prog 79 #[v, .int .i64 n] w (RV (.int .i64 (szT n (bulk xs))) w) := by
  obtain ⟨F, A, c, e, S⟩ := h
  obtain rfl : v = .slice A xs.length c := by simpa using e
  have hl : xs.length ≤ c := S.1
  have hm := le63 S.2.1
  have HS := Lib.hid S
  clear S e
  have HB := Lib.hid (show bulk xs = xs.length + bulkL xs from rfl)
  by_cases hc : n < xs.length
  · go_enter Try.func79, Try.ntmps79
    go_wp2
    go_ret
    refine RV.mk (ret_int ?_) (by repeat (first | exact Below.refl _ _ | refine bl_al ?_ _ | refine bl_ext ?_ _ _ | refine Below.drew ?_ | assumption | refine bl_tr ?_ (by assumption)))
    rw [HB.out]
    simp only [szT]
    omega
  · go_enter Try.func79, Try.ntmps79
    go_wp2
    go_loopw [1, 5] (fun l i wr => ∃ (k : Nat) (E : Array Obj) (d : Nat), k ≤ xs.length ∧ (bulkL (xs.take k) : Int) ≤ n - xs.length ∧ i = .int .i64 k ∧ l = .int .i64 (n - xs.length - bulkL (xs.take k)) ∧ wr = ext w E d) (fun _ i _ => xs.length - (intOf i).toNat)
    case atStart => exact ⟨0, #[], w.drawn, by omega, by simp [bulkL]; omega, rfl, by simp [bulkL], by simp [ext]⟩
    case round =>
      obtain ⟨k, E, d, hk, hle, rfl, rfl, rfl⟩ := hrel
      by_cases hlt : k < xs.length
      · obtain ⟨b, off, x, cs, Gk, rfl, hx, hr, _, _, hb, hC⟩ := HS.out.at_ hlt
        have ht := bulkL_take_succ hx
        have HT := Lib.hid ht
        have HX := Lib.hid hx
        clear ht hx
        have HR := Lib.hid (Held.mk hr)
        obtain ⟨x1, x2, x3, x4, x5, x6⟩ := x
        obtain ⟨_, _, _, _, qx1, hr', rfl, rfl⟩ := hr
        obtain ⟨rfl, ix1, rfl⟩ := qx1
        obtain ⟨_, _, _, _, qx2, hr'', rfl, rfl⟩ := hr'
        obtain ⟨rfl, ix2, rfl⟩ := qx2
        obtain ⟨_, _, _, _, qx3, hr''', rfl, rfl⟩ := hr''
        obtain ⟨rfl, ix3, rfl⟩ := qx3
        obtain ⟨_, _, _, _, qx4, hr'''', rfl, rfl⟩ := hr'''
        obtain ⟨rfl, ix4, rfl⟩ := qx4
        obtain ⟨_, _, _, _, qx5, hr''''', rfl, rfl⟩ := hr''''
        obtain ⟨rfl, gx5, rfl⟩ := qx5
        obtain ⟨rfl, gx6, rfl⟩ := hr'''''
        have hsx5 : x5.size ≤ 9223372036854775807 := le63 gx5
        have hsx6 : x6.size ≤ 9223372036854775807 := le63 gx6
        have k0 : w.cell? ⟨b, off + k * 6, none⟩ = some (.int .i64 x1) := (hC 0 _ rfl).1
        have k1 : w.cell? ⟨b, off + k * 6 + 1, none⟩ = some (.int .i64 x2) := (hC 1 _ rfl).1
        have k2 : w.cell? ⟨b, off + k * 6 + 2, none⟩ = some (.int .i64 x3) := (hC 2 _ rfl).1
        have k3 : w.cell? ⟨b, off + k * 6 + 3, none⟩ = some (.int .i64 x4) := (hC 3 _ rfl).1
        have k4 : w.cell? ⟨b, off + k * 6 + 4, none⟩ = some (.string x5) := (hC 4 _ rfl).1
        have k5 : w.cell? ⟨b, off + k * 6 + 5, none⟩ = some (.string x6) := (hC 5 _ rfl).1
        clear hC
        have hB := bulkL_at HX.out
        generalize bulkL (xs.take k) = B at *
        obtain ⟨M, hM⟩ : ∃ M, bulk ((x1, x2, x3, x4, x5, x6) : GCommit) = M := ⟨_, rfl⟩
        rw [hM] at hB
        have HT2 := Lib.hid (HT.out.trans (congrArg (B + ·) hM))
        clear HT
        by_cases hf : n - xs.length - B < M
        · have ez : szT (n - xs.length - B) M = -1 := szT_lt hf
          go_wp2_with (go_at_call 165; refine (l_szCommit ((x1, x2, x3, x4, x5, x6)) _ _ (by repeat (first | exact HR.out | with_reducible refine held_alloc ?_ _ | with_reducible refine held_ext ?_ _ _)) _ (by omega) (by omega)).mono ?_; rintro e _ ⟨rfl, E1, d1, rfl⟩)
          go_ret
          refine RV.mk (ret_int ?_) (by repeat (first | exact Below.refl _ _ | refine bl_al ?_ _ | refine bl_ext ?_ _ _ | refine Below.drew ?_ | assumption | refine bl_tr ?_ (by assumption)))
          rw [HB.out]
          exact (szT_lt (by omega)).symm
        · have ez : szT (n - xs.length - B) M = n - xs.length - B - M := szT_ge (by omega)
          have y : 0 ≤ n - xs.length - B - M := by omega
          go_wp2_with (go_at_call 165; refine (l_szCommit ((x1, x2, x3, x4, x5, x6)) _ _ (by repeat (first | exact HR.out | with_reducible refine held_alloc ?_ _ | with_reducible refine held_ext ?_ _ _)) _ (by omega) (by omega)).mono ?_; rintro e _ ⟨rfl, E1, d1, rfl⟩)
          go_roundw
          case rel => exact ⟨k + 1, E ++ E1, d1, by omega, by rw [HT2.out]; omega, by go_num, by rw [HT2.out]; congr 1; omega, ext_ext _ _ _ _ _⟩
          case measure => simp [intOf]; omega
      · have hkk : k = xs.length := by omega
        have HE := Lib.hid (show bulkL (xs.take k) = bulkL xs by rw [hkk, List.take_length])
        generalize bulkL (xs.take k) = B at *
        clear hkk
        go_wp2
        go_ret
        refine RV.mk (ret_int ?_) (by repeat (first | exact Below.refl _ _ | refine bl_al ?_ _ | refine bl_ext ?_ _ _ | refine Below.drew ?_ | assumption | refine bl_tr ?_ (by assumption)))
        have := HE.out
        rw [HB.out, szT_ge (by omega)]
        omega

set_option maxHeartbeats 1000000 in
theorem l_szStore (x : GStore) (cs : List Value) (w : World) (h : Held w x cs) (n : Int) (h0 : 0 ≤ n) (h1 : n ≤ 1048576) :
    Calls Try.prog 14 #[.agg cs.toArray, .int .i64 n] w (RV (.int .i64 (szT n (bulk x))) w) := by
  obtain ⟨F, h⟩ := h
  obtain ⟨x1, x2, x3⟩ := x
  obtain ⟨_, _, _, _, qx1, h', rfl, rfl⟩ := h
  have Rx1 := Lib.hid (Held.mk qx1)
  obtain ⟨Ax1, cx1, rfl, Sx1⟩ := qx1
  obtain ⟨_, _, _, _, qx2, h'', rfl, rfl⟩ := h'
  have Rx2 := Lib.hid (Held.mk qx2)
  obtain ⟨Ax2, cx2, rfl, Sx2⟩ := qx2
  obtain ⟨rfl, ix3, rfl⟩ := h''
  change Calls Try.prog 14 #[.agg #[.slice Ax1 x1.length cx1, .slice Ax2 x2.length cx2, .int .i64 x3], .int .i64 n] w _
  obtain ⟨M0, hM0⟩ : ∃ M, bulk x1 = M := ⟨_, rfl⟩
  obtain ⟨M1, hM1⟩ : ∃ M, bulk x2 = M := ⟨_, rfl⟩
  have HB := Lib.hid (show bulk ((x1, x2, x3) : GStore) = 0 + M0 + M1 by first | rfl | (show bulk x1 + (bulk x2 + (0)) = _; omega))
  by_cases f0 : n < M0
  · have z0 : szT (n) M0 = -1 := szT_lt f0
    go_enter Try.func14, Try.ntmps14
    go_wp2_with (first | (go_at_call 78; refine (l_szBoxS x1 _ _ (by repeat (first | exact Rx1.out | with_reducible refine held_alloc ?_ _ | with_reducible refine held_ext ?_ _ _)) _ (by omega) (by omega)).mono ?_; rintro e _ ⟨rfl, EM0, dM0, rfl⟩) | (go_at_call 79; refine (l_szCommitS x2 _ _ (by repeat (first | exact Rx2.out | with_reducible refine held_alloc ?_ _ | with_reducible refine held_ext ?_ _ _)) _ (by omega) (by omega)).mono ?_; rintro e _ ⟨rfl, EM1, dM1, rfl⟩))
    go_ret
    refine RV.mk (ret_int ?_) (by repeat (first | exact Below.refl _ _ | refine bl_al ?_ _ | refine bl_ext ?_ _ _ | refine Below.drew ?_ | assumption | refine bl_tr ?_ (by assumption)))
    rw [HB.out]
    simp only [szT]
    omega
  · have z0 : szT (n) M0 = n - M0 := szT_ge (by omega)
    have y0 : 0 ≤ n - M0 := by omega
    by_cases f1 : n - M0 < M1
    · have z1 : szT (n - M0) M1 = -1 := szT_lt f1
      go_enter Try.func14, Try.ntmps14
      go_wp2_with (first | (go_at_call 78; refine (l_szBoxS x1 _ _ (by repeat (first | exact Rx1.out | with_reducible refine held_alloc ?_ _ | with_reducible refine held_ext ?_ _ _)) _ (by omega) (by omega)).mono ?_; rintro e _ ⟨rfl, EM0, dM0, rfl⟩) | (go_at_call 79; refine (l_szCommitS x2 _ _ (by repeat (first | exact Rx2.out | with_reducible refine held_alloc ?_ _ | with_reducible refine held_ext ?_ _ _)) _ (by omega) (by omega)).mono ?_; rintro e _ ⟨rfl, EM1, dM1, rfl⟩))
      go_ret
      refine RV.mk (ret_int ?_) (by repeat (first | exact Below.refl _ _ | refine bl_al ?_ _ | refine bl_ext ?_ _ _ | refine Below.drew ?_ | assumption | refine bl_tr ?_ (by assumption)))
      rw [HB.out]
      simp only [szT]
      omega
    · have z1 : szT (n - M0) M1 = n - M0 - M1 := szT_ge (by omega)
      have y1 : 0 ≤ n - M0 - M1 := by omega
      go_enter Try.func14, Try.ntmps14
      go_wp2_with (first | (go_at_call 78; refine (l_szBoxS x1 _ _ (by repeat (first | exact Rx1.out | with_reducible refine held_alloc ?_ _ | with_reducible refine held_ext ?_ _ _)) _ (by omega) (by omega)).mono ?_; rintro e _ ⟨rfl, EM0, dM0, rfl⟩) | (go_at_call 79; refine (l_szCommitS x2 _ _ (by repeat (first | exact Rx2.out | with_reducible refine held_alloc ?_ _ | with_reducible refine held_ext ?_ _ _)) _ (by omega) (by omega)).mono ?_; rintro e _ ⟨rfl, EM1, dM1, rfl⟩))
      go_ret
      refine RV.mk (ret_int ?_) (by repeat (first | exact Below.refl _ _ | refine bl_al ?_ _ | refine bl_ext ?_ _ _ | refine Below.drew ?_ | assumption | refine bl_tr ?_ (by assumption)))
      rw [HB.out]
      simp only [szT]
      omega


set_option maxRecDepth 100000 in
set_option maxHeartbeats 1000000 in
theorem l_szSeenS (xs : (List GSeen)) (v : Value) (w : World) (h : Held w xs [v]) (n : Int) (h0 : 0 ≤ n) (h1 : n ≤ 1048576) :
    Calls Try.prog 117 #[v, .int .i64 n] w (RV (.int .i64 (szT n (bulk xs))) w) := by
  obtain ⟨F, A, c, e, S⟩ := h
  obtain rfl : v = .slice A xs.length c := by simpa using e
  have hl : xs.length ≤ c := S.1
  have hm := le63 S.2.1
  have HS := Lib.hid S
  clear S e
  have HB := Lib.hid (show bulk xs = xs.length + bulkL xs from rfl)
  by_cases hc : n < xs.length
  · go_enter Try.func117, Try.ntmps117
    go_wp2
    go_ret
    refine RV.mk (ret_int ?_) (by repeat (first | exact Below.refl _ _ | refine bl_al ?_ _ | refine bl_ext ?_ _ _ | refine Below.drew ?_ | assumption | refine bl_tr ?_ (by assumption)))
    rw [HB.out]
    simp only [szT]
    omega
  · have HZ := Lib.hid (show bulkL xs = 0 from bulkL_zero (fun _ => rfl) xs)
    have _ := HS
    go_enter Try.func117, Try.ntmps117
    go_wp2
    go_ret
    refine RV.mk (ret_int ?_) (by repeat (first | exact Below.refl _ _ | refine bl_al ?_ _ | refine bl_ext ?_ _ _ | refine Below.drew ?_ | assumption | refine bl_tr ?_ (by assumption)))
    have := HZ.out
    rw [HB.out, szT_ge (by omega)]
    omega

set_option maxHeartbeats 1000000 in
theorem l_szView (x : GView) (cs : List Value) (w : World) (h : Held w x cs) (n : Int) (h0 : 0 ≤ n) (h1 : n ≤ 1048576) :
    Calls Try.prog 44 #[.agg cs.toArray, .int .i64 n] w (RV (.int .i64 (szT n (bulk x))) w) := by
  obtain ⟨F, h⟩ := h
  obtain ⟨x1, rfl⟩ : ∃ y, y = x := ⟨_, rfl⟩
  have Rx1 := Lib.hid (Held.mk h)
  obtain ⟨Ax1, cx1, rfl, Sx1⟩ := h
  change Calls Try.prog 44 #[.agg #[.slice Ax1 x1.length cx1], .int .i64 n] w _
  obtain ⟨M0, hM0⟩ : ∃ M, bulk x1 = M := ⟨_, rfl⟩
  have HB := Lib.hid (show bulk (x1 : GView) = 0 + M0 by first | rfl | (show bulk x1 = _; omega))
  by_cases f0 : n < M0
  · have z0 : szT (n) M0 = -1 := szT_lt f0
    go_enter Try.func44, Try.ntmps44
    go_wp2_with (first | (go_at_call 117; refine (l_szSeenS x1 _ _ (by repeat (first | exact Rx1.out | with_reducible refine held_alloc ?_ _ | with_reducible refine held_ext ?_ _ _)) _ (by omega) (by omega)).mono ?_; rintro e _ ⟨rfl, EM0, dM0, rfl⟩))
    go_ret
    refine RV.mk (ret_int ?_) (by repeat (first | exact Below.refl _ _ | refine bl_al ?_ _ | refine bl_ext ?_ _ _ | refine Below.drew ?_ | assumption | refine bl_tr ?_ (by assumption)))
    rw [HB.out]
    simp only [szT]
    omega
  · have z0 : szT (n) M0 = n - M0 := szT_ge (by omega)
    have y0 : 0 ≤ n - M0 := by omega
    go_enter Try.func44, Try.ntmps44
    go_wp2_with (first | (go_at_call 117; refine (l_szSeenS x1 _ _ (by repeat (first | exact Rx1.out | with_reducible refine held_alloc ?_ _ | with_reducible refine held_ext ?_ _ _)) _ (by omega) (by omega)).mono ?_; rintro e _ ⟨rfl, EM0, dM0, rfl⟩))
    go_ret
    refine RV.mk (ret_int ?_) (by repeat (first | exact Below.refl _ _ | refine bl_al ?_ _ | refine bl_ext ?_ _ _ | refine Below.drew ?_ | assumption | refine bl_tr ?_ (by assumption)))
    rw [HB.out]
    simp only [szT]
    omega



set_option maxHeartbeats 1000000 in
theorem l_szNote (x : GNote) (cs : List Value) (w : World) (h : Held w x cs) (n : Int) (h0 : 0 ≤ n) (h1 : n ≤ 1048576) :
    Calls Try.prog 102 #[.agg cs.toArray, .int .i64 n] w (RV (.int .i64 (szT n (bulk x))) w) := by
  obtain ⟨F, h⟩ := h
  obtain ⟨x1, x2, x3, x4⟩ := x
  obtain ⟨_, _, _, _, qx1, h', rfl, rfl⟩ := h
  obtain ⟨rfl, ix1, rfl⟩ := qx1
  obtain ⟨_, _, _, _, qx2, h'', rfl, rfl⟩ := h'
  obtain ⟨rfl, ix2, rfl⟩ := qx2
  obtain ⟨_, _, _, _, qx3, h''', rfl, rfl⟩ := h''
  obtain ⟨rfl, ix3, rfl⟩ := qx3
  obtain ⟨rfl, gx4, rfl⟩ := h'''
  have hsx4 : x4.size ≤ 9223372036854775807 := le63 gx4
  change Calls Try.prog 102 #[.agg #[.int .i64 x1, .int .i64 x2, .int .i64 x3, .string x4], .int .i64 n] w _
  have HB := Lib.hid (show bulk ((x1, x2, x3, x4) : GNote) = 0 + x4.size by first | rfl | (show 0 + (0 + (0 + (x4.size))) = _; omega))
  clear gx4
  by_cases f0 : n < x4.size
  · have z0 : n - x4.size < 0 := by omega
    go_enter Try.func102, Try.ntmps102
    go_wp2
    go_ret
    refine RV.mk (ret_int ?_) (by repeat (first | exact Below.refl _ _ | refine bl_al ?_ _ | refine bl_ext ?_ _ _ | refine Below.drew ?_ | assumption | refine bl_tr ?_ (by assumption)))
    rw [HB.out]
    simp only [szT]
    omega
  · have z0 : ¬ n - x4.size < 0 := by omega
    have y0 : 0 ≤ n - x4.size := by omega
    go_enter Try.func102, Try.ntmps102
    go_wp2
    go_ret
    refine RV.mk (ret_int ?_) (by repeat (first | exact Below.refl _ _ | refine bl_al ?_ _ | refine bl_ext ?_ _ _ | refine Below.drew ?_ | assumption | refine bl_tr ?_ (by assumption)))
    rw [HB.out]
    simp only [szT]
    omega

set_option maxRecDepth 100000 in
set_option maxHeartbeats 1000000 in
theorem l_szNoteS (xs : (List GNote)) (v : Value) (w : World) (h : Held w xs [v]) (n : Int) (h0 : 0 ≤ n) (h1 : n ≤ 1048576) :
    Calls Try.prog 31 #[v, .int .i64 n] w (RV (.int .i64 (szT n (bulk xs))) w) := by
  obtain ⟨F, A, c, e, S⟩ := h
  obtain rfl : v = .slice A xs.length c := by simpa using e
  have hl : xs.length ≤ c := S.1
  have hm := le63 S.2.1
  have HS := Lib.hid S
  clear S e
  have HB := Lib.hid (show bulk xs = xs.length + bulkL xs from rfl)
  by_cases hc : n < xs.length
  · go_enter Try.func31, Try.ntmps31
    go_wp2
    go_ret
    refine RV.mk (ret_int ?_) (by repeat (first | exact Below.refl _ _ | refine bl_al ?_ _ | refine bl_ext ?_ _ _ | refine Below.drew ?_ | assumption | refine bl_tr ?_ (by assumption)))
    rw [HB.out]
    simp only [szT]
    omega
  · go_enter Try.func31, Try.ntmps31
    go_wp2
    go_loopw [1, 5] (fun l i wr => ∃ (k : Nat) (E : Array Obj) (d : Nat), k ≤ xs.length ∧ (bulkL (xs.take k) : Int) ≤ n - xs.length ∧ i = .int .i64 k ∧ l = .int .i64 (n - xs.length - bulkL (xs.take k)) ∧ wr = ext w E d) (fun _ i _ => xs.length - (intOf i).toNat)
    case atStart => exact ⟨0, #[], w.drawn, by omega, by simp [bulkL]; omega, rfl, by simp [bulkL], by simp [ext]⟩
    case round =>
      obtain ⟨k, E, d, hk, hle, rfl, rfl, rfl⟩ := hrel
      by_cases hlt : k < xs.length
      · obtain ⟨b, off, x, cs, Gk, rfl, hx, hr, _, _, hb, hC⟩ := HS.out.at_ hlt
        have ht := bulkL_take_succ hx
        have HT := Lib.hid ht
        have HX := Lib.hid hx
        clear ht hx
        have HR := Lib.hid (Held.mk hr)
        obtain ⟨x1, x2, x3, x4⟩ := x
        obtain ⟨_, _, _, _, qx1, hr', rfl, rfl⟩ := hr
        obtain ⟨rfl, ix1, rfl⟩ := qx1
        obtain ⟨_, _, _, _, qx2, hr'', rfl, rfl⟩ := hr'
        obtain ⟨rfl, ix2, rfl⟩ := qx2
        obtain ⟨_, _, _, _, qx3, hr''', rfl, rfl⟩ := hr''
        obtain ⟨rfl, ix3, rfl⟩ := qx3
        obtain ⟨rfl, gx4, rfl⟩ := hr'''
        have hsx4 : x4.size ≤ 9223372036854775807 := le63 gx4
        have k0 : w.cell? ⟨b, off + k * 4, none⟩ = some (.int .i64 x1) := (hC 0 _ rfl).1
        have k1 : w.cell? ⟨b, off + k * 4 + 1, none⟩ = some (.int .i64 x2) := (hC 1 _ rfl).1
        have k2 : w.cell? ⟨b, off + k * 4 + 2, none⟩ = some (.int .i64 x3) := (hC 2 _ rfl).1
        have k3 : w.cell? ⟨b, off + k * 4 + 3, none⟩ = some (.string x4) := (hC 3 _ rfl).1
        clear hC
        have hB := bulkL_at HX.out
        generalize bulkL (xs.take k) = B at *
        obtain ⟨M, hM⟩ : ∃ M, bulk ((x1, x2, x3, x4) : GNote) = M := ⟨_, rfl⟩
        rw [hM] at hB
        have HT2 := Lib.hid (HT.out.trans (congrArg (B + ·) hM))
        clear HT
        by_cases hf : n - xs.length - B < M
        · have ez : szT (n - xs.length - B) M = -1 := szT_lt hf
          go_wp2_with (go_at_call 102; refine (l_szNote ((x1, x2, x3, x4)) _ _ (by repeat (first | exact HR.out | with_reducible refine held_alloc ?_ _ | with_reducible refine held_ext ?_ _ _)) _ (by omega) (by omega)).mono ?_; rintro e _ ⟨rfl, E1, d1, rfl⟩)
          go_ret
          refine RV.mk (ret_int ?_) (by repeat (first | exact Below.refl _ _ | refine bl_al ?_ _ | refine bl_ext ?_ _ _ | refine Below.drew ?_ | assumption | refine bl_tr ?_ (by assumption)))
          rw [HB.out]
          exact (szT_lt (by omega)).symm
        · have ez : szT (n - xs.length - B) M = n - xs.length - B - M := szT_ge (by omega)
          have y : 0 ≤ n - xs.length - B - M := by omega
          go_wp2_with (go_at_call 102; refine (l_szNote ((x1, x2, x3, x4)) _ _ (by repeat (first | exact HR.out | with_reducible refine held_alloc ?_ _ | with_reducible refine held_ext ?_ _ _)) _ (by omega) (by omega)).mono ?_; rintro e _ ⟨rfl, E1, d1, rfl⟩)
          go_roundw
          case rel => exact ⟨k + 1, E ++ E1, d1, by omega, by rw [HT2.out]; omega, by go_num, by rw [HT2.out]; congr 1; omega, ext_ext _ _ _ _ _⟩
          case measure => simp [intOf]; omega
      · have hkk : k = xs.length := by omega
        have HE := Lib.hid (show bulkL (xs.take k) = bulkL xs by rw [hkk, List.take_length])
        generalize bulkL (xs.take k) = B at *
        clear hkk
        go_wp2
        go_ret
        refine RV.mk (ret_int ?_) (by repeat (first | exact Below.refl _ _ | refine bl_al ?_ _ | refine bl_ext ?_ _ _ | refine Below.drew ?_ | assumption | refine bl_tr ?_ (by assumption)))
        have := HE.out
        rw [HB.out, szT_ge (by omega)]
        omega

set_option maxHeartbeats 1000000 in
theorem l_szQueue (x : GQueue) (cs : List Value) (w : World) (h : Held w x cs) (n : Int) (h0 : 0 ≤ n) (h1 : n ≤ 1048576) :
    Calls Try.prog 30 #[.agg cs.toArray, .int .i64 n] w (RV (.int .i64 (szT n (bulk x))) w) := by
  obtain ⟨F, h⟩ := h
  obtain ⟨x1, x2, x3⟩ := x
  obtain ⟨_, _, _, _, qx1, h', rfl, rfl⟩ := h
  have Rx1 := Lib.hid (Held.mk qx1)
  obtain ⟨Ax1, cx1, rfl, Sx1⟩ := qx1
  obtain ⟨_, _, _, _, qx2, h'', rfl, rfl⟩ := h'
  obtain ⟨rfl, rfl⟩ := qx2
  obtain ⟨rfl, rfl⟩ := h''
  change Calls Try.prog 30 #[.agg #[.slice Ax1 x1.length cx1, .bool x2, .bool x3], .int .i64 n] w _
  obtain ⟨M0, hM0⟩ : ∃ M, bulk x1 = M := ⟨_, rfl⟩
  have HB := Lib.hid (show bulk ((x1, x2, x3) : GQueue) = 0 + M0 by first | rfl | (show bulk x1 + (0 + (0)) = _; omega))
  by_cases f0 : n < M0
  · have z0 : szT (n) M0 = -1 := szT_lt f0
    go_enter Try.func30, Try.ntmps30
    go_wp2_with (first | (go_at_call 31; refine (l_szNoteS x1 _ _ (by repeat (first | exact Rx1.out | with_reducible refine held_alloc ?_ _ | with_reducible refine held_ext ?_ _ _)) _ (by omega) (by omega)).mono ?_; rintro e _ ⟨rfl, EM0, dM0, rfl⟩))
    go_ret
    refine RV.mk (ret_int ?_) (by repeat (first | exact Below.refl _ _ | refine bl_al ?_ _ | refine bl_ext ?_ _ _ | refine Below.drew ?_ | assumption | refine bl_tr ?_ (by assumption)))
    rw [HB.out]
    simp only [szT]
    omega
  · have z0 : szT (n) M0 = n - M0 := szT_ge (by omega)
    have y0 : 0 ≤ n - M0 := by omega
    go_enter Try.func30, Try.ntmps30
    go_wp2_with (first | (go_at_call 31; refine (l_szNoteS x1 _ _ (by repeat (first | exact Rx1.out | with_reducible refine held_alloc ?_ _ | with_reducible refine held_ext ?_ _ _)) _ (by omega) (by omega)).mono ?_; rintro e _ ⟨rfl, EM0, dM0, rfl⟩))
    go_ret
    refine RV.mk (ret_int ?_) (by repeat (first | exact Below.refl _ _ | refine bl_al ?_ _ | refine bl_ext ?_ _ _ | refine Below.drew ?_ | assumption | refine bl_tr ?_ (by assumption)))
    rw [HB.out]
    simp only [szT]
    omega

set_option maxHeartbeats 1000000 in
theorem l_szIn (x : GIn) (cs : List Value) (w : World) (h : Held w x cs) (n : Int) (h0 : 0 ≤ n) (h1 : n ≤ 1048576) :
    Calls Try.prog 91 #[.agg cs.toArray, .int .i64 n] w (RV (.int .i64 (szT n (bulk x))) w) := by
  obtain ⟨F, h⟩ := h
  obtain ⟨x1, x2⟩ := x
  obtain ⟨_, _, _, _, qx1, h', rfl, rfl⟩ := h
  obtain ⟨rfl, gx1, rfl⟩ := qx1
  obtain ⟨rfl, rfl⟩ := h'
  have hsx1 : x1.size ≤ 9223372036854775807 := le63 gx1
  change Calls Try.prog 91 #[.agg #[.string x1, .bool x2], .int .i64 n] w _
  have HB := Lib.hid (show bulk ((x1, x2) : GIn) = 0 + x1.size by first | rfl | (show x1.size + (0) = _; omega))
  clear gx1
  by_cases f0 : n < x1.size
  · have z0 : n - x1.size < 0 := by omega
    go_enter Try.func91, Try.ntmps91
    go_wp2
    go_ret
    refine RV.mk (ret_int ?_) (by repeat (first | exact Below.refl _ _ | refine bl_al ?_ _ | refine bl_ext ?_ _ _ | refine Below.drew ?_ | assumption | refine bl_tr ?_ (by assumption)))
    rw [HB.out]
    simp only [szT]
    omega
  · have z0 : ¬ n - x1.size < 0 := by omega
    have y0 : 0 ≤ n - x1.size := by omega
    go_enter Try.func91, Try.ntmps91
    go_wp2
    go_ret
    refine RV.mk (ret_int ?_) (by repeat (first | exact Below.refl _ _ | refine bl_al ?_ _ | refine bl_ext ?_ _ _ | refine Below.drew ?_ | assumption | refine bl_tr ?_ (by assumption)))
    rw [HB.out]
    simp only [szT]
    omega

set_option maxHeartbeats 1000000 in
theorem l_szOut (x : GOut) (cs : List Value) (w : World) (h : Held w x cs) (n : Int) (h0 : 0 ≤ n) (h1 : n ≤ 1048576) :
    Calls Try.prog 92 #[.agg cs.toArray, .int .i64 n] w (RV (.int .i64 (szT n (bulk x))) w) := by
  obtain ⟨F, h⟩ := h
  obtain ⟨x1, x2⟩ := x
  obtain ⟨_, _, _, _, qx1, h', rfl, rfl⟩ := h
  obtain ⟨rfl, gx1, rfl⟩ := qx1
  obtain ⟨rfl, gx2, rfl⟩ := h'
  have hsx1 : x1.size ≤ 9223372036854775807 := le63 gx1
  have hsx2 : x2.size ≤ 9223372036854775807 := le63 gx2
  change Calls Try.prog 92 #[.agg #[.string x1, .string x2], .int .i64 n] w _
  have HB := Lib.hid (show bulk ((x1, x2) : GOut) = 0 + x1.size + x2.size by first | rfl | (show x1.size + (x2.size) = _; omega))
  clear gx1 gx2
  by_cases f0 : n < x1.size
  · have z0 : n - x1.size < 0 := by omega
    go_enter Try.func92, Try.ntmps92
    go_wp2
    go_ret
    refine RV.mk (ret_int ?_) (by repeat (first | exact Below.refl _ _ | refine bl_al ?_ _ | refine bl_ext ?_ _ _ | refine Below.drew ?_ | assumption | refine bl_tr ?_ (by assumption)))
    rw [HB.out]
    simp only [szT]
    omega
  · have z0 : ¬ n - x1.size < 0 := by omega
    have y0 : 0 ≤ n - x1.size := by omega
    by_cases f1 : n - x1.size < x2.size
    · have z1 : n - x1.size - x2.size < 0 := by omega
      go_enter Try.func92, Try.ntmps92
      go_wp2
      go_ret
      refine RV.mk (ret_int ?_) (by repeat (first | exact Below.refl _ _ | refine bl_al ?_ _ | refine bl_ext ?_ _ _ | refine Below.drew ?_ | assumption | refine bl_tr ?_ (by assumption)))
      rw [HB.out]
      simp only [szT]
      omega
    · have z1 : ¬ n - x1.size - x2.size < 0 := by omega
      have y1 : 0 ≤ n - x1.size - x2.size := by omega
      go_enter Try.func92, Try.ntmps92
      go_wp2
      go_ret
      refine RV.mk (ret_int ?_) (by repeat (first | exact Below.refl _ _ | refine bl_al ?_ _ | refine bl_ext ?_ _ _ | refine Below.drew ?_ | assumption | refine bl_tr ?_ (by assumption)))
      rw [HB.out]
      simp only [szT]
      omega


set_option maxHeartbeats 1000000 in
theorem l_szCommand (x : GCommand) (cs : List Value) (w : World) (h : Held w x cs) (n : Int) (h0 : 0 ≤ n) (h1 : n ≤ 1048576) :
    Calls Try.prog 43 #[.agg cs.toArray, .int .i64 n] w (RV (.int .i64 (szT n (bulk x))) w) := by
  obtain ⟨F, h⟩ := h
  obtain ⟨x1, x2, x3, x4, x5, x6, x7, x8, x9, ⟨x10, x11⟩⟩ := x
  obtain ⟨_, _, _, _, qx1, h', rfl, rfl⟩ := h
  obtain ⟨rfl, gx1, rfl⟩ := qx1
  obtain ⟨_, _, _, _, qx2, h'', rfl, rfl⟩ := h'
  obtain ⟨rfl, ix2, rfl⟩ := qx2
  obtain ⟨_, _, _, _, qx3, h''', rfl, rfl⟩ := h''
  obtain ⟨rfl, gx3, rfl⟩ := qx3
  obtain ⟨_, _, _, _, qx4, h'''', rfl, rfl⟩ := h'''
  obtain ⟨rfl, gx4, rfl⟩ := qx4
  obtain ⟨_, _, _, _, qx5, h''''', rfl, rfl⟩ := h''''
  obtain ⟨rfl, rfl⟩ := qx5
  obtain ⟨_, _, _, _, qx6, h'''''', rfl, rfl⟩ := h'''''
  have Rx6 := Lib.hid (Held.mk qx6)
  obtain ⟨Ax6, cx6, rfl, Sx6⟩ := qx6
  obtain ⟨_, _, _, _, qx7, h''''''', rfl, rfl⟩ := h''''''
  obtain ⟨rfl, ix7, rfl⟩ := qx7
  obtain ⟨_, _, _, _, qx8, h'''''''', rfl, rfl⟩ := h'''''''
  obtain ⟨rfl, ix8, rfl⟩ := qx8
  obtain ⟨_, _, _, _, qx9, h''''''''', rfl, rfl⟩ := h''''''''
  obtain ⟨rfl, gx9, rfl⟩ := qx9
  have RFilter_x10 := Lib.hid (Held.mk h''''''''')
  obtain ⟨_, _, _, _, ⟨rfl, rfl⟩, ⟨Ax11, cx11, rfl, Sx11⟩, rfl, rfl⟩ := h'''''''''
  have hsx1 : x1.size ≤ 9223372036854775807 := le63 gx1
  have hsx3 : x3.size ≤ 9223372036854775807 := le63 gx3
  have hsx4 : x4.size ≤ 9223372036854775807 := le63 gx4
  have hsx9 : x9.size ≤ 9223372036854775807 := le63 gx9
  change Calls Try.prog 43 #[.agg #[.string x1, .int .i64 x2, .string x3, .string x4, .bool x5, .slice Ax6 x6.length cx6, .int .i64 x7, .int .i64 x8, .string x9, .bool x10, .slice Ax11 x11.length cx11], .int .i64 n] w _
  obtain ⟨M5, hM5⟩ : ∃ M, bulk x6 = M := ⟨_, rfl⟩
  obtain ⟨M9, hM9⟩ : ∃ M, bulk ((x10, x11) : GFilter) = M := ⟨_, rfl⟩
  have HB := Lib.hid (show bulk ((x1, x2, x3, x4, x5, x6, x7, x8, x9, (x10, x11)) : GCommand) = 0 + x1.size + x3.size + x4.size + M5 + x9.size + M9 by first | rfl | (show x1.size + (0 + (x3.size + (x4.size + (0 + (bulk x6 + (0 + (0 + (x9.size + (bulk ((x10, x11) : GFilter)))))))))) = _; omega))
  clear gx1 gx3 gx4 gx9
  by_cases f0 : n < x1.size
  · have z0 : n - x1.size < 0 := by omega
    go_enter Try.func43, Try.ntmps43
    go_wp2_with (first | (go_at_call 116; refine (l_szSpanS x6 _ _ (by repeat (first | exact Rx6.out | with_reducible refine held_alloc ?_ _ | with_reducible refine held_ext ?_ _ _)) _ (by omega) (by omega)).mono ?_; rintro e _ ⟨rfl, EM5, dM5, rfl⟩) | (go_at_call 90; refine (l_szFilter ((x10, x11) : GFilter) _ _ (by repeat (first | exact RFilter_x10.out | with_reducible refine held_alloc ?_ _ | with_reducible refine held_ext ?_ _ _)) _ (by omega) (by omega)).mono ?_; rintro e _ ⟨rfl, EM9, dM9, rfl⟩))
    go_ret
    refine RV.mk (ret_int ?_) (by repeat (first | exact Below.refl _ _ | refine bl_al ?_ _ | refine bl_ext ?_ _ _ | refine Below.drew ?_ | assumption | refine bl_tr ?_ (by assumption)))
    rw [HB.out]
    simp only [szT]
    omega
  · have z0 : ¬ n - x1.size < 0 := by omega
    have y0 : 0 ≤ n - x1.size := by omega
    by_cases f1 : n - x1.size < x3.size
    · have z1 : n - x1.size - x3.size < 0 := by omega
      go_enter Try.func43, Try.ntmps43
      go_wp2_with (first | (go_at_call 116; refine (l_szSpanS x6 _ _ (by repeat (first | exact Rx6.out | with_reducible refine held_alloc ?_ _ | with_reducible refine held_ext ?_ _ _)) _ (by omega) (by omega)).mono ?_; rintro e _ ⟨rfl, EM5, dM5, rfl⟩) | (go_at_call 90; refine (l_szFilter ((x10, x11) : GFilter) _ _ (by repeat (first | exact RFilter_x10.out | with_reducible refine held_alloc ?_ _ | with_reducible refine held_ext ?_ _ _)) _ (by omega) (by omega)).mono ?_; rintro e _ ⟨rfl, EM9, dM9, rfl⟩))
      go_ret
      refine RV.mk (ret_int ?_) (by repeat (first | exact Below.refl _ _ | refine bl_al ?_ _ | refine bl_ext ?_ _ _ | refine Below.drew ?_ | assumption | refine bl_tr ?_ (by assumption)))
      rw [HB.out]
      simp only [szT]
      omega
    · have z1 : ¬ n - x1.size - x3.size < 0 := by omega
      have y1 : 0 ≤ n - x1.size - x3.size := by omega
      by_cases f2 : n - x1.size - x3.size < x4.size
      · have z2 : n - x1.size - x3.size - x4.size < 0 := by omega
        go_enter Try.func43, Try.ntmps43
        go_wp2_with (first | (go_at_call 116; refine (l_szSpanS x6 _ _ (by repeat (first | exact Rx6.out | with_reducible refine held_alloc ?_ _ | with_reducible refine held_ext ?_ _ _)) _ (by omega) (by omega)).mono ?_; rintro e _ ⟨rfl, EM5, dM5, rfl⟩) | (go_at_call 90; refine (l_szFilter ((x10, x11) : GFilter) _ _ (by repeat (first | exact RFilter_x10.out | with_reducible refine held_alloc ?_ _ | with_reducible refine held_ext ?_ _ _)) _ (by omega) (by omega)).mono ?_; rintro e _ ⟨rfl, EM9, dM9, rfl⟩))
        go_ret
        refine RV.mk (ret_int ?_) (by repeat (first | exact Below.refl _ _ | refine bl_al ?_ _ | refine bl_ext ?_ _ _ | refine Below.drew ?_ | assumption | refine bl_tr ?_ (by assumption)))
        rw [HB.out]
        simp only [szT]
        omega
      · have z2 : ¬ n - x1.size - x3.size - x4.size < 0 := by omega
        have y2 : 0 ≤ n - x1.size - x3.size - x4.size := by omega
        by_cases f3 : n - x1.size - x3.size - x4.size < M5
        · have z3 : szT (n - x1.size - x3.size - x4.size) M5 = -1 := szT_lt f3
          go_enter Try.func43, Try.ntmps43
          go_wp2_with (first | (go_at_call 116; refine (l_szSpanS x6 _ _ (by repeat (first | exact Rx6.out | with_reducible refine held_alloc ?_ _ | with_reducible refine held_ext ?_ _ _)) _ (by omega) (by omega)).mono ?_; rintro e _ ⟨rfl, EM5, dM5, rfl⟩) | (go_at_call 90; refine (l_szFilter ((x10, x11) : GFilter) _ _ (by repeat (first | exact RFilter_x10.out | with_reducible refine held_alloc ?_ _ | with_reducible refine held_ext ?_ _ _)) _ (by omega) (by omega)).mono ?_; rintro e _ ⟨rfl, EM9, dM9, rfl⟩))
          go_ret
          refine RV.mk (ret_int ?_) (by repeat (first | exact Below.refl _ _ | refine bl_al ?_ _ | refine bl_ext ?_ _ _ | refine Below.drew ?_ | assumption | refine bl_tr ?_ (by assumption)))
          rw [HB.out]
          simp only [szT]
          omega
        · have z3 : szT (n - x1.size - x3.size - x4.size) M5 = n - x1.size - x3.size - x4.size - M5 := szT_ge (by omega)
          have y3 : 0 ≤ n - x1.size - x3.size - x4.size - M5 := by omega
          by_cases f4 : n - x1.size - x3.size - x4.size - M5 < x9.size
          · have z4 : n - x1.size - x3.size - x4.size - M5 - x9.size < 0 := by omega
            go_enter Try.func43, Try.ntmps43
            go_wp2_with (first | (go_at_call 116; refine (l_szSpanS x6 _ _ (by repeat (first | exact Rx6.out | with_reducible refine held_alloc ?_ _ | with_reducible refine held_ext ?_ _ _)) _ (by omega) (by omega)).mono ?_; rintro e _ ⟨rfl, EM5, dM5, rfl⟩) | (go_at_call 90; refine (l_szFilter ((x10, x11) : GFilter) _ _ (by repeat (first | exact RFilter_x10.out | with_reducible refine held_alloc ?_ _ | with_reducible refine held_ext ?_ _ _)) _ (by omega) (by omega)).mono ?_; rintro e _ ⟨rfl, EM9, dM9, rfl⟩))
            go_ret
            refine RV.mk (ret_int ?_) (by repeat (first | exact Below.refl _ _ | refine bl_al ?_ _ | refine bl_ext ?_ _ _ | refine Below.drew ?_ | assumption | refine bl_tr ?_ (by assumption)))
            rw [HB.out]
            simp only [szT]
            omega
          · have z4 : ¬ n - x1.size - x3.size - x4.size - M5 - x9.size < 0 := by omega
            have y4 : 0 ≤ n - x1.size - x3.size - x4.size - M5 - x9.size := by omega
            by_cases f5 : n - x1.size - x3.size - x4.size - M5 - x9.size < M9
            · have z5 : szT (n - x1.size - x3.size - x4.size - M5 - x9.size) M9 = -1 := szT_lt f5
              go_enter Try.func43, Try.ntmps43
              go_wp2_with (first | (go_at_call 116; refine (l_szSpanS x6 _ _ (by repeat (first | exact Rx6.out | with_reducible refine held_alloc ?_ _ | with_reducible refine held_ext ?_ _ _)) _ (by omega) (by omega)).mono ?_; rintro e _ ⟨rfl, EM5, dM5, rfl⟩) | (go_at_call 90; refine (l_szFilter ((x10, x11) : GFilter) _ _ (by repeat (first | exact RFilter_x10.out | with_reducible refine held_alloc ?_ _ | with_reducible refine held_ext ?_ _ _)) _ (by omega) (by omega)).mono ?_; rintro e _ ⟨rfl, EM9, dM9, rfl⟩))
              go_ret
              refine RV.mk (ret_int ?_) (by repeat (first | exact Below.refl _ _ | refine bl_al ?_ _ | refine bl_ext ?_ _ _ | refine Below.drew ?_ | assumption | refine bl_tr ?_ (by assumption)))
              rw [HB.out]
              simp only [szT]
              omega
            · have z5 : szT (n - x1.size - x3.size - x4.size - M5 - x9.size) M9 = n - x1.size - x3.size - x4.size - M5 - x9.size - M9 := szT_ge (by omega)
              have y5 : 0 ≤ n - x1.size - x3.size - x4.size - M5 - x9.size - M9 := by omega
              go_enter Try.func43, Try.ntmps43
              go_wp2_with (first | (go_at_call 116; refine (l_szSpanS x6 _ _ (by repeat (first | exact Rx6.out | with_reducible refine held_alloc ?_ _ | with_reducible refine held_ext ?_ _ _)) _ (by omega) (by omega)).mono ?_; rintro e _ ⟨rfl, EM5, dM5, rfl⟩) | (go_at_call 90; refine (l_szFilter ((x10, x11) : GFilter) _ _ (by repeat (first | exact RFilter_x10.out | with_reducible refine held_alloc ?_ _ | with_reducible refine held_ext ?_ _ _)) _ (by omega) (by omega)).mono ?_; rintro e _ ⟨rfl, EM9, dM9, rfl⟩))
              go_ret
              refine RV.mk (ret_int ?_) (by repeat (first | exact Below.refl _ _ | refine bl_al ?_ _ | refine bl_ext ?_ _ _ | refine Below.drew ?_ | assumption | refine bl_tr ?_ (by assumption)))
              rw [HB.out]
              simp only [szT]
              omega

set_option maxHeartbeats 1000000 in
theorem l_szSession (x : GSession) (cs : List Value) (w : World) (h : Held w x cs) (n : Int) (h0 : 0 ≤ n) (h1 : n ≤ 1048576) :
    Calls Try.prog 23 #[.agg cs.toArray, .int .i64 n] w (RV (.int .i64 (szT n (bulk x))) w) := by
  obtain ⟨F, h⟩ := h
  obtain ⟨x1, x2, x3, x4, x5, ⟨x6, x7⟩, x8, x9, ⟨x10, x11, x12⟩, ⟨x13, x14⟩, ⟨x15, x16⟩, x17⟩ := x
  obtain ⟨_, _, _, _, qx1, h', rfl, rfl⟩ := h
  obtain ⟨rfl, rfl⟩ := qx1
  obtain ⟨_, _, _, _, qx2, h'', rfl, rfl⟩ := h'
  obtain ⟨rfl, ix2, rfl⟩ := qx2
  obtain ⟨_, _, _, _, qx3, h''', rfl, rfl⟩ := h''
  obtain ⟨rfl, ix3, rfl⟩ := qx3
  obtain ⟨_, _, _, _, qx4, h'''', rfl, rfl⟩ := h'''
  obtain ⟨rfl, ix4, rfl⟩ := qx4
  obtain ⟨_, _, _, _, qView_x5, h''''', rfl, rfl⟩ := h''''
  have RView_x5 := Lib.hid (Held.mk qView_x5)
  obtain ⟨Ax5, cx5, rfl, Sx5⟩ := qView_x5
  obtain ⟨_, _, _, _, qFilter_x6, h'''''', rfl, rfl⟩ := h'''''
  have RFilter_x6 := Lib.hid (Held.mk qFilter_x6)
  obtain ⟨_, _, _, _, ⟨rfl, rfl⟩, ⟨Ax7, cx7, rfl, Sx7⟩, rfl, rfl⟩ := qFilter_x6
  obtain ⟨_, _, _, _, qx8, h''''''', rfl, rfl⟩ := h''''''
  obtain ⟨rfl, gx8, rfl⟩ := qx8
  obtain ⟨_, _, _, _, qx9, h'''''''', rfl, rfl⟩ := h'''''''
  obtain ⟨rfl, gx9, rfl⟩ := qx9
  obtain ⟨_, _, _, _, qQueue_x10, h''''''''', rfl, rfl⟩ := h''''''''
  have RQueue_x10 := Lib.hid (Held.mk qQueue_x10)
  obtain ⟨_, _, _, _, ⟨Ax10, cx10, rfl, Sx10⟩, ⟨_, _, _, _, ⟨rfl, rfl⟩, ⟨rfl, rfl⟩, rfl, rfl⟩, rfl, rfl⟩ := qQueue_x10
  obtain ⟨_, _, _, _, qIn_x13, h'''''''''', rfl, rfl⟩ := h'''''''''
  have RIn_x13 := Lib.hid (Held.mk qIn_x13)
  obtain ⟨_, _, _, _, ⟨rfl, gx13, rfl⟩, ⟨rfl, rfl⟩, rfl, rfl⟩ := qIn_x13
  obtain ⟨_, _, _, _, qOut_x15, h''''''''''', rfl, rfl⟩ := h''''''''''
  have ROut_x15 := Lib.hid (Held.mk qOut_x15)
  obtain ⟨_, _, _, _, ⟨rfl, gx15, rfl⟩, ⟨rfl, gx16, rfl⟩, rfl, rfl⟩ := qOut_x15
  obtain ⟨rfl, ix17, rfl⟩ := h'''''''''''
  have hsx8 : x8.size ≤ 9223372036854775807 := le63 gx8
  have hsx9 : x9.size ≤ 9223372036854775807 := le63 gx9
  have hsx13 : x13.size ≤ 9223372036854775807 := le63 gx13
  have hsx15 : x15.size ≤ 9223372036854775807 := le63 gx15
  have hsx16 : x16.size ≤ 9223372036854775807 := le63 gx16
  change Calls Try.prog 23 #[.agg #[.bool x1, .int .i64 x2, .int .i64 x3, .int .i64 x4, .slice Ax5 x5.length cx5, .bool x6, .slice Ax7 x7.length cx7, .string x8, .string x9, .slice Ax10 x10.length cx10, .bool x11, .bool x12, .string x13, .bool x14, .string x15, .string x16, .int .i64 x17], .int .i64 n] w _
  obtain ⟨M4, hM4⟩ : ∃ M, bulk (x5 : GView) = M := ⟨_, rfl⟩
  obtain ⟨M5, hM5⟩ : ∃ M, bulk ((x6, x7) : GFilter) = M := ⟨_, rfl⟩
  obtain ⟨M8, hM8⟩ : ∃ M, bulk ((x10, x11, x12) : GQueue) = M := ⟨_, rfl⟩
  obtain ⟨M9, hM9⟩ : ∃ M, bulk ((x13, x14) : GIn) = M := ⟨_, rfl⟩
  obtain ⟨M10, hM10⟩ : ∃ M, bulk ((x15, x16) : GOut) = M := ⟨_, rfl⟩
  have HB := Lib.hid (show bulk ((x1, x2, x3, x4, x5, (x6, x7), x8, x9, (x10, x11, x12), (x13, x14), (x15, x16), x17) : GSession) = 0 + M4 + M5 + x8.size + x9.size + M8 + M9 + M10 by first | rfl | (show 0 + (0 + (0 + (0 + (bulk (x5 : GView) + (bulk ((x6, x7) : GFilter) + (x8.size + (x9.size + (bulk ((x10, x11, x12) : GQueue) + (bulk ((x13, x14) : GIn) + (bulk ((x15, x16) : GOut) + (0))))))))))) = _; omega))
  clear gx8 gx9 gx13 gx15 gx16
  by_cases f0 : n < M4
  · have z0 : szT (n) M4 = -1 := szT_lt f0
    go_enter Try.func23, Try.ntmps23
    go_wp2_with (first | (go_at_call 44; refine (l_szView (x5 : GView) _ _ (by repeat (first | exact RView_x5.out | with_reducible refine held_alloc ?_ _ | with_reducible refine held_ext ?_ _ _)) _ (by omega) (by omega)).mono ?_; rintro e _ ⟨rfl, EM4, dM4, rfl⟩) | (go_at_call 90; refine (l_szFilter ((x6, x7) : GFilter) _ _ (by repeat (first | exact RFilter_x6.out | with_reducible refine held_alloc ?_ _ | with_reducible refine held_ext ?_ _ _)) _ (by omega) (by omega)).mono ?_; rintro e _ ⟨rfl, EM5, dM5, rfl⟩) | (go_at_call 30; refine (l_szQueue ((x10, x11, x12) : GQueue) _ _ (by repeat (first | exact RQueue_x10.out | with_reducible refine held_alloc ?_ _ | with_reducible refine held_ext ?_ _ _)) _ (by omega) (by omega)).mono ?_; rintro e _ ⟨rfl, EM8, dM8, rfl⟩) | (go_at_call 91; refine (l_szIn ((x13, x14) : GIn) _ _ (by repeat (first | exact RIn_x13.out | with_reducible refine held_alloc ?_ _ | with_reducible refine held_ext ?_ _ _)) _ (by omega) (by omega)).mono ?_; rintro e _ ⟨rfl, EM9, dM9, rfl⟩) | (go_at_call 92; refine (l_szOut ((x15, x16) : GOut) _ _ (by repeat (first | exact ROut_x15.out | with_reducible refine held_alloc ?_ _ | with_reducible refine held_ext ?_ _ _)) _ (by omega) (by omega)).mono ?_; rintro e _ ⟨rfl, EM10, dM10, rfl⟩))
    go_ret
    refine RV.mk (ret_int ?_) (by repeat (first | exact Below.refl _ _ | refine bl_al ?_ _ | refine bl_ext ?_ _ _ | refine Below.drew ?_ | assumption | refine bl_tr ?_ (by assumption)))
    rw [HB.out]
    simp only [szT]
    omega
  · have z0 : szT (n) M4 = n - M4 := szT_ge (by omega)
    have y0 : 0 ≤ n - M4 := by omega
    by_cases f1 : n - M4 < M5
    · have z1 : szT (n - M4) M5 = -1 := szT_lt f1
      go_enter Try.func23, Try.ntmps23
      go_wp2_with (first | (go_at_call 44; refine (l_szView (x5 : GView) _ _ (by repeat (first | exact RView_x5.out | with_reducible refine held_alloc ?_ _ | with_reducible refine held_ext ?_ _ _)) _ (by omega) (by omega)).mono ?_; rintro e _ ⟨rfl, EM4, dM4, rfl⟩) | (go_at_call 90; refine (l_szFilter ((x6, x7) : GFilter) _ _ (by repeat (first | exact RFilter_x6.out | with_reducible refine held_alloc ?_ _ | with_reducible refine held_ext ?_ _ _)) _ (by omega) (by omega)).mono ?_; rintro e _ ⟨rfl, EM5, dM5, rfl⟩) | (go_at_call 30; refine (l_szQueue ((x10, x11, x12) : GQueue) _ _ (by repeat (first | exact RQueue_x10.out | with_reducible refine held_alloc ?_ _ | with_reducible refine held_ext ?_ _ _)) _ (by omega) (by omega)).mono ?_; rintro e _ ⟨rfl, EM8, dM8, rfl⟩) | (go_at_call 91; refine (l_szIn ((x13, x14) : GIn) _ _ (by repeat (first | exact RIn_x13.out | with_reducible refine held_alloc ?_ _ | with_reducible refine held_ext ?_ _ _)) _ (by omega) (by omega)).mono ?_; rintro e _ ⟨rfl, EM9, dM9, rfl⟩) | (go_at_call 92; refine (l_szOut ((x15, x16) : GOut) _ _ (by repeat (first | exact ROut_x15.out | with_reducible refine held_alloc ?_ _ | with_reducible refine held_ext ?_ _ _)) _ (by omega) (by omega)).mono ?_; rintro e _ ⟨rfl, EM10, dM10, rfl⟩))
      go_ret
      refine RV.mk (ret_int ?_) (by repeat (first | exact Below.refl _ _ | refine bl_al ?_ _ | refine bl_ext ?_ _ _ | refine Below.drew ?_ | assumption | refine bl_tr ?_ (by assumption)))
      rw [HB.out]
      simp only [szT]
      omega
    · have z1 : szT (n - M4) M5 = n - M4 - M5 := szT_ge (by omega)
      have y1 : 0 ≤ n - M4 - M5 := by omega
      by_cases f2 : n - M4 - M5 < x8.size
      · have z2 : n - M4 - M5 - x8.size < 0 := by omega
        go_enter Try.func23, Try.ntmps23
        go_wp2_with (first | (go_at_call 44; refine (l_szView (x5 : GView) _ _ (by repeat (first | exact RView_x5.out | with_reducible refine held_alloc ?_ _ | with_reducible refine held_ext ?_ _ _)) _ (by omega) (by omega)).mono ?_; rintro e _ ⟨rfl, EM4, dM4, rfl⟩) | (go_at_call 90; refine (l_szFilter ((x6, x7) : GFilter) _ _ (by repeat (first | exact RFilter_x6.out | with_reducible refine held_alloc ?_ _ | with_reducible refine held_ext ?_ _ _)) _ (by omega) (by omega)).mono ?_; rintro e _ ⟨rfl, EM5, dM5, rfl⟩) | (go_at_call 30; refine (l_szQueue ((x10, x11, x12) : GQueue) _ _ (by repeat (first | exact RQueue_x10.out | with_reducible refine held_alloc ?_ _ | with_reducible refine held_ext ?_ _ _)) _ (by omega) (by omega)).mono ?_; rintro e _ ⟨rfl, EM8, dM8, rfl⟩) | (go_at_call 91; refine (l_szIn ((x13, x14) : GIn) _ _ (by repeat (first | exact RIn_x13.out | with_reducible refine held_alloc ?_ _ | with_reducible refine held_ext ?_ _ _)) _ (by omega) (by omega)).mono ?_; rintro e _ ⟨rfl, EM9, dM9, rfl⟩) | (go_at_call 92; refine (l_szOut ((x15, x16) : GOut) _ _ (by repeat (first | exact ROut_x15.out | with_reducible refine held_alloc ?_ _ | with_reducible refine held_ext ?_ _ _)) _ (by omega) (by omega)).mono ?_; rintro e _ ⟨rfl, EM10, dM10, rfl⟩))
        go_ret
        refine RV.mk (ret_int ?_) (by repeat (first | exact Below.refl _ _ | refine bl_al ?_ _ | refine bl_ext ?_ _ _ | refine Below.drew ?_ | assumption | refine bl_tr ?_ (by assumption)))
        rw [HB.out]
        simp only [szT]
        omega
      · have z2 : ¬ n - M4 - M5 - x8.size < 0 := by omega
        have y2 : 0 ≤ n - M4 - M5 - x8.size := by omega
        by_cases f3 : n - M4 - M5 - x8.size < x9.size
        · have z3 : n - M4 - M5 - x8.size - x9.size < 0 := by omega
          go_enter Try.func23, Try.ntmps23
          go_wp2_with (first | (go_at_call 44; refine (l_szView (x5 : GView) _ _ (by repeat (first | exact RView_x5.out | with_reducible refine held_alloc ?_ _ | with_reducible refine held_ext ?_ _ _)) _ (by omega) (by omega)).mono ?_; rintro e _ ⟨rfl, EM4, dM4, rfl⟩) | (go_at_call 90; refine (l_szFilter ((x6, x7) : GFilter) _ _ (by repeat (first | exact RFilter_x6.out | with_reducible refine held_alloc ?_ _ | with_reducible refine held_ext ?_ _ _)) _ (by omega) (by omega)).mono ?_; rintro e _ ⟨rfl, EM5, dM5, rfl⟩) | (go_at_call 30; refine (l_szQueue ((x10, x11, x12) : GQueue) _ _ (by repeat (first | exact RQueue_x10.out | with_reducible refine held_alloc ?_ _ | with_reducible refine held_ext ?_ _ _)) _ (by omega) (by omega)).mono ?_; rintro e _ ⟨rfl, EM8, dM8, rfl⟩) | (go_at_call 91; refine (l_szIn ((x13, x14) : GIn) _ _ (by repeat (first | exact RIn_x13.out | with_reducible refine held_alloc ?_ _ | with_reducible refine held_ext ?_ _ _)) _ (by omega) (by omega)).mono ?_; rintro e _ ⟨rfl, EM9, dM9, rfl⟩) | (go_at_call 92; refine (l_szOut ((x15, x16) : GOut) _ _ (by repeat (first | exact ROut_x15.out | with_reducible refine held_alloc ?_ _ | with_reducible refine held_ext ?_ _ _)) _ (by omega) (by omega)).mono ?_; rintro e _ ⟨rfl, EM10, dM10, rfl⟩))
          go_ret
          refine RV.mk (ret_int ?_) (by repeat (first | exact Below.refl _ _ | refine bl_al ?_ _ | refine bl_ext ?_ _ _ | refine Below.drew ?_ | assumption | refine bl_tr ?_ (by assumption)))
          rw [HB.out]
          simp only [szT]
          omega
        · have z3 : ¬ n - M4 - M5 - x8.size - x9.size < 0 := by omega
          have y3 : 0 ≤ n - M4 - M5 - x8.size - x9.size := by omega
          by_cases f4 : n - M4 - M5 - x8.size - x9.size < M8
          · have z4 : szT (n - M4 - M5 - x8.size - x9.size) M8 = -1 := szT_lt f4
            go_enter Try.func23, Try.ntmps23
            go_wp2_with (first | (go_at_call 44; refine (l_szView (x5 : GView) _ _ (by repeat (first | exact RView_x5.out | with_reducible refine held_alloc ?_ _ | with_reducible refine held_ext ?_ _ _)) _ (by omega) (by omega)).mono ?_; rintro e _ ⟨rfl, EM4, dM4, rfl⟩) | (go_at_call 90; refine (l_szFilter ((x6, x7) : GFilter) _ _ (by repeat (first | exact RFilter_x6.out | with_reducible refine held_alloc ?_ _ | with_reducible refine held_ext ?_ _ _)) _ (by omega) (by omega)).mono ?_; rintro e _ ⟨rfl, EM5, dM5, rfl⟩) | (go_at_call 30; refine (l_szQueue ((x10, x11, x12) : GQueue) _ _ (by repeat (first | exact RQueue_x10.out | with_reducible refine held_alloc ?_ _ | with_reducible refine held_ext ?_ _ _)) _ (by omega) (by omega)).mono ?_; rintro e _ ⟨rfl, EM8, dM8, rfl⟩) | (go_at_call 91; refine (l_szIn ((x13, x14) : GIn) _ _ (by repeat (first | exact RIn_x13.out | with_reducible refine held_alloc ?_ _ | with_reducible refine held_ext ?_ _ _)) _ (by omega) (by omega)).mono ?_; rintro e _ ⟨rfl, EM9, dM9, rfl⟩) | (go_at_call 92; refine (l_szOut ((x15, x16) : GOut) _ _ (by repeat (first | exact ROut_x15.out | with_reducible refine held_alloc ?_ _ | with_reducible refine held_ext ?_ _ _)) _ (by omega) (by omega)).mono ?_; rintro e _ ⟨rfl, EM10, dM10, rfl⟩))
            go_ret
            refine RV.mk (ret_int ?_) (by repeat (first | exact Below.refl _ _ | refine bl_al ?_ _ | refine bl_ext ?_ _ _ | refine Below.drew ?_ | assumption | refine bl_tr ?_ (by assumption)))
            rw [HB.out]
            simp only [szT]
            omega
          · have z4 : szT (n - M4 - M5 - x8.size - x9.size) M8 = n - M4 - M5 - x8.size - x9.size - M8 := szT_ge (by omega)
            have y4 : 0 ≤ n - M4 - M5 - x8.size - x9.size - M8 := by omega
            by_cases f5 : n - M4 - M5 - x8.size - x9.size - M8 < M9
            · have z5 : szT (n - M4 - M5 - x8.size - x9.size - M8) M9 = -1 := szT_lt f5
              go_enter Try.func23, Try.ntmps23
              go_wp2_with (first | (go_at_call 44; refine (l_szView (x5 : GView) _ _ (by repeat (first | exact RView_x5.out | with_reducible refine held_alloc ?_ _ | with_reducible refine held_ext ?_ _ _)) _ (by omega) (by omega)).mono ?_; rintro e _ ⟨rfl, EM4, dM4, rfl⟩) | (go_at_call 90; refine (l_szFilter ((x6, x7) : GFilter) _ _ (by repeat (first | exact RFilter_x6.out | with_reducible refine held_alloc ?_ _ | with_reducible refine held_ext ?_ _ _)) _ (by omega) (by omega)).mono ?_; rintro e _ ⟨rfl, EM5, dM5, rfl⟩) | (go_at_call 30; refine (l_szQueue ((x10, x11, x12) : GQueue) _ _ (by repeat (first | exact RQueue_x10.out | with_reducible refine held_alloc ?_ _ | with_reducible refine held_ext ?_ _ _)) _ (by omega) (by omega)).mono ?_; rintro e _ ⟨rfl, EM8, dM8, rfl⟩) | (go_at_call 91; refine (l_szIn ((x13, x14) : GIn) _ _ (by repeat (first | exact RIn_x13.out | with_reducible refine held_alloc ?_ _ | with_reducible refine held_ext ?_ _ _)) _ (by omega) (by omega)).mono ?_; rintro e _ ⟨rfl, EM9, dM9, rfl⟩) | (go_at_call 92; refine (l_szOut ((x15, x16) : GOut) _ _ (by repeat (first | exact ROut_x15.out | with_reducible refine held_alloc ?_ _ | with_reducible refine held_ext ?_ _ _)) _ (by omega) (by omega)).mono ?_; rintro e _ ⟨rfl, EM10, dM10, rfl⟩))
              go_ret
              refine RV.mk (ret_int ?_) (by repeat (first | exact Below.refl _ _ | refine bl_al ?_ _ | refine bl_ext ?_ _ _ | refine Below.drew ?_ | assumption | refine bl_tr ?_ (by assumption)))
              rw [HB.out]
              simp only [szT]
              omega
            · have z5 : szT (n - M4 - M5 - x8.size - x9.size - M8) M9 = n - M4 - M5 - x8.size - x9.size - M8 - M9 := szT_ge (by omega)
              have y5 : 0 ≤ n - M4 - M5 - x8.size - x9.size - M8 - M9 := by omega
              by_cases f6 : n - M4 - M5 - x8.size - x9.size - M8 - M9 < M10
              · have z6 : szT (n - M4 - M5 - x8.size - x9.size - M8 - M9) M10 = -1 := szT_lt f6
                go_enter Try.func23, Try.ntmps23
                go_wp2_with (first | (go_at_call 44; refine (l_szView (x5 : GView) _ _ (by repeat (first | exact RView_x5.out | with_reducible refine held_alloc ?_ _ | with_reducible refine held_ext ?_ _ _)) _ (by omega) (by omega)).mono ?_; rintro e _ ⟨rfl, EM4, dM4, rfl⟩) | (go_at_call 90; refine (l_szFilter ((x6, x7) : GFilter) _ _ (by repeat (first | exact RFilter_x6.out | with_reducible refine held_alloc ?_ _ | with_reducible refine held_ext ?_ _ _)) _ (by omega) (by omega)).mono ?_; rintro e _ ⟨rfl, EM5, dM5, rfl⟩) | (go_at_call 30; refine (l_szQueue ((x10, x11, x12) : GQueue) _ _ (by repeat (first | exact RQueue_x10.out | with_reducible refine held_alloc ?_ _ | with_reducible refine held_ext ?_ _ _)) _ (by omega) (by omega)).mono ?_; rintro e _ ⟨rfl, EM8, dM8, rfl⟩) | (go_at_call 91; refine (l_szIn ((x13, x14) : GIn) _ _ (by repeat (first | exact RIn_x13.out | with_reducible refine held_alloc ?_ _ | with_reducible refine held_ext ?_ _ _)) _ (by omega) (by omega)).mono ?_; rintro e _ ⟨rfl, EM9, dM9, rfl⟩) | (go_at_call 92; refine (l_szOut ((x15, x16) : GOut) _ _ (by repeat (first | exact ROut_x15.out | with_reducible refine held_alloc ?_ _ | with_reducible refine held_ext ?_ _ _)) _ (by omega) (by omega)).mono ?_; rintro e _ ⟨rfl, EM10, dM10, rfl⟩))
                go_ret
                refine RV.mk (ret_int ?_) (by repeat (first | exact Below.refl _ _ | refine bl_al ?_ _ | refine bl_ext ?_ _ _ | refine Below.drew ?_ | assumption | refine bl_tr ?_ (by assumption)))
                rw [HB.out]
                simp only [szT]
                omega
              · have z6 : szT (n - M4 - M5 - x8.size - x9.size - M8 - M9) M10 = n - M4 - M5 - x8.size - x9.size - M8 - M9 - M10 := szT_ge (by omega)
                have y6 : 0 ≤ n - M4 - M5 - x8.size - x9.size - M8 - M9 - M10 := by omega
                go_enter Try.func23, Try.ntmps23
                go_wp2_with (first | (go_at_call 44; refine (l_szView (x5 : GView) _ _ (by repeat (first | exact RView_x5.out | with_reducible refine held_alloc ?_ _ | with_reducible refine held_ext ?_ _ _)) _ (by omega) (by omega)).mono ?_; rintro e _ ⟨rfl, EM4, dM4, rfl⟩) | (go_at_call 90; refine (l_szFilter ((x6, x7) : GFilter) _ _ (by repeat (first | exact RFilter_x6.out | with_reducible refine held_alloc ?_ _ | with_reducible refine held_ext ?_ _ _)) _ (by omega) (by omega)).mono ?_; rintro e _ ⟨rfl, EM5, dM5, rfl⟩) | (go_at_call 30; refine (l_szQueue ((x10, x11, x12) : GQueue) _ _ (by repeat (first | exact RQueue_x10.out | with_reducible refine held_alloc ?_ _ | with_reducible refine held_ext ?_ _ _)) _ (by omega) (by omega)).mono ?_; rintro e _ ⟨rfl, EM8, dM8, rfl⟩) | (go_at_call 91; refine (l_szIn ((x13, x14) : GIn) _ _ (by repeat (first | exact RIn_x13.out | with_reducible refine held_alloc ?_ _ | with_reducible refine held_ext ?_ _ _)) _ (by omega) (by omega)).mono ?_; rintro e _ ⟨rfl, EM9, dM9, rfl⟩) | (go_at_call 92; refine (l_szOut ((x15, x16) : GOut) _ _ (by repeat (first | exact ROut_x15.out | with_reducible refine held_alloc ?_ _ | with_reducible refine held_ext ?_ _ _)) _ (by omega) (by omega)).mono ?_; rintro e _ ⟨rfl, EM10, dM10, rfl⟩))
                go_ret
                refine RV.mk (ret_int ?_) (by repeat (first | exact Below.refl _ _ | refine bl_al ?_ _ | refine bl_ext ?_ _ _ | refine Below.drew ?_ | assumption | refine bl_tr ?_ (by assumption)))
                rw [HB.out]
                simp only [szT]
                omega

set_option maxRecDepth 100000 in
set_option maxHeartbeats 1000000 in
theorem l_szSessionS (xs : (List GSession)) (v : Value) (w : World) (h : Held w xs [v]) (n : Int) (h0 : 0 ≤ n) (h1 : n ≤ 1048576) :
    Calls Try.prog 148 #[v, .int .i64 n] w (RV (.int .i64 (szT n (bulk xs))) w) := by
  obtain ⟨F, A, c, e, S⟩ := h
  obtain rfl : v = .slice A xs.length c := by simpa using e
  have hl : xs.length ≤ c := S.1
  have hm := le63 S.2.1
  have HS := Lib.hid S
  clear S e
  have HB := Lib.hid (show bulk xs = xs.length + bulkL xs from rfl)
  by_cases hc : n < xs.length
  · go_enter Try.func148, Try.ntmps148
    go_wp2
    go_ret
    refine RV.mk (ret_int ?_) (by repeat (first | exact Below.refl _ _ | refine bl_al ?_ _ | refine bl_ext ?_ _ _ | refine Below.drew ?_ | assumption | refine bl_tr ?_ (by assumption)))
    rw [HB.out]
    simp only [szT]
    omega
  · go_enter Try.func148, Try.ntmps148
    go_wp2
    go_loopw [1, 5] (fun l i wr => ∃ (k : Nat) (E : Array Obj) (d : Nat), k ≤ xs.length ∧ (bulkL (xs.take k) : Int) ≤ n - xs.length ∧ i = .int .i64 k ∧ l = .int .i64 (n - xs.length - bulkL (xs.take k)) ∧ wr = ext w E d) (fun _ i _ => xs.length - (intOf i).toNat)
    case atStart => exact ⟨0, #[], w.drawn, by omega, by simp [bulkL]; omega, rfl, by simp [bulkL], by simp [ext]⟩
    case round =>
      obtain ⟨k, E, d, hk, hle, rfl, rfl, rfl⟩ := hrel
      by_cases hlt : k < xs.length
      · obtain ⟨b, off, x, cs, Gk, rfl, hx, hr, _, _, hb, hC⟩ := HS.out.at_ hlt
        have ht := bulkL_take_succ hx
        have HT := Lib.hid ht
        have HX := Lib.hid hx
        clear ht hx
        have HR := Lib.hid (Held.mk hr)
        obtain ⟨x1, x2, x3, x4, x5, ⟨x6, x7⟩, x8, x9, ⟨x10, x11, x12⟩, ⟨x13, x14⟩, ⟨x15, x16⟩, x17⟩ := x
        obtain ⟨_, _, _, _, qx1, hr', rfl, rfl⟩ := hr
        obtain ⟨rfl, rfl⟩ := qx1
        obtain ⟨_, _, _, _, qx2, hr'', rfl, rfl⟩ := hr'
        obtain ⟨rfl, ix2, rfl⟩ := qx2
        obtain ⟨_, _, _, _, qx3, hr''', rfl, rfl⟩ := hr''
        obtain ⟨rfl, ix3, rfl⟩ := qx3
        obtain ⟨_, _, _, _, qx4, hr'''', rfl, rfl⟩ := hr'''
        obtain ⟨rfl, ix4, rfl⟩ := qx4
        obtain ⟨_, _, _, _, qView_x5, hr''''', rfl, rfl⟩ := hr''''
        have RView_x5 := Lib.hid (Held.mk qView_x5)
        obtain ⟨Ax5, cx5, rfl, Sx5⟩ := qView_x5
        obtain ⟨_, _, _, _, qFilter_x6, hr'''''', rfl, rfl⟩ := hr'''''
        have RFilter_x6 := Lib.hid (Held.mk qFilter_x6)
        obtain ⟨_, _, _, _, ⟨rfl, rfl⟩, ⟨Ax7, cx7, rfl, Sx7⟩, rfl, rfl⟩ := qFilter_x6
        obtain ⟨_, _, _, _, qx8, hr''''''', rfl, rfl⟩ := hr''''''
        obtain ⟨rfl, gx8, rfl⟩ := qx8
        obtain ⟨_, _, _, _, qx9, hr'''''''', rfl, rfl⟩ := hr'''''''
        obtain ⟨rfl, gx9, rfl⟩ := qx9
        obtain ⟨_, _, _, _, qQueue_x10, hr''''''''', rfl, rfl⟩ := hr''''''''
        have RQueue_x10 := Lib.hid (Held.mk qQueue_x10)
        obtain ⟨_, _, _, _, ⟨Ax10, cx10, rfl, Sx10⟩, ⟨_, _, _, _, ⟨rfl, rfl⟩, ⟨rfl, rfl⟩, rfl, rfl⟩, rfl, rfl⟩ := qQueue_x10
        obtain ⟨_, _, _, _, qIn_x13, hr'''''''''', rfl, rfl⟩ := hr'''''''''
        have RIn_x13 := Lib.hid (Held.mk qIn_x13)
        obtain ⟨_, _, _, _, ⟨rfl, gx13, rfl⟩, ⟨rfl, rfl⟩, rfl, rfl⟩ := qIn_x13
        obtain ⟨_, _, _, _, qOut_x15, hr''''''''''', rfl, rfl⟩ := hr''''''''''
        have ROut_x15 := Lib.hid (Held.mk qOut_x15)
        obtain ⟨_, _, _, _, ⟨rfl, gx15, rfl⟩, ⟨rfl, gx16, rfl⟩, rfl, rfl⟩ := qOut_x15
        obtain ⟨rfl, ix17, rfl⟩ := hr'''''''''''
        have hsx8 : x8.size ≤ 9223372036854775807 := le63 gx8
        have hsx9 : x9.size ≤ 9223372036854775807 := le63 gx9
        have hsx13 : x13.size ≤ 9223372036854775807 := le63 gx13
        have hsx15 : x15.size ≤ 9223372036854775807 := le63 gx15
        have hsx16 : x16.size ≤ 9223372036854775807 := le63 gx16
        have k0 : w.cell? ⟨b, off + k * 17, none⟩ = some (.bool x1) := (hC 0 _ rfl).1
        have k1 : w.cell? ⟨b, off + k * 17 + 1, none⟩ = some (.int .i64 x2) := (hC 1 _ rfl).1
        have k2 : w.cell? ⟨b, off + k * 17 + 2, none⟩ = some (.int .i64 x3) := (hC 2 _ rfl).1
        have k3 : w.cell? ⟨b, off + k * 17 + 3, none⟩ = some (.int .i64 x4) := (hC 3 _ rfl).1
        have k4 : w.cell? ⟨b, off + k * 17 + 4, none⟩ = some (.slice Ax5 x5.length cx5) := (hC 4 _ rfl).1
        have k5 : w.cell? ⟨b, off + k * 17 + 5, none⟩ = some (.bool x6) := (hC 5 _ rfl).1
        have k6 : w.cell? ⟨b, off + k * 17 + 6, none⟩ = some (.slice Ax7 x7.length cx7) := (hC 6 _ rfl).1
        have k7 : w.cell? ⟨b, off + k * 17 + 7, none⟩ = some (.string x8) := (hC 7 _ rfl).1
        have k8 : w.cell? ⟨b, off + k * 17 + 8, none⟩ = some (.string x9) := (hC 8 _ rfl).1
        have k9 : w.cell? ⟨b, off + k * 17 + 9, none⟩ = some (.slice Ax10 x10.length cx10) := (hC 9 _ rfl).1
        have k10 : w.cell? ⟨b, off + k * 17 + 10, none⟩ = some (.bool x11) := (hC 10 _ rfl).1
        have k11 : w.cell? ⟨b, off + k * 17 + 11, none⟩ = some (.bool x12) := (hC 11 _ rfl).1
        have k12 : w.cell? ⟨b, off + k * 17 + 12, none⟩ = some (.string x13) := (hC 12 _ rfl).1
        have k13 : w.cell? ⟨b, off + k * 17 + 13, none⟩ = some (.bool x14) := (hC 13 _ rfl).1
        have k14 : w.cell? ⟨b, off + k * 17 + 14, none⟩ = some (.string x15) := (hC 14 _ rfl).1
        have k15 : w.cell? ⟨b, off + k * 17 + 15, none⟩ = some (.string x16) := (hC 15 _ rfl).1
        have k16 : w.cell? ⟨b, off + k * 17 + 16, none⟩ = some (.int .i64 x17) := (hC 16 _ rfl).1
        clear hC
        have hB := bulkL_at HX.out
        generalize bulkL (xs.take k) = B at *
        obtain ⟨M, hM⟩ : ∃ M, bulk ((x1, x2, x3, x4, x5, (x6, x7), x8, x9, (x10, x11, x12), (x13, x14), (x15, x16), x17) : GSession) = M := ⟨_, rfl⟩
        rw [hM] at hB
        have HT2 := Lib.hid (HT.out.trans (congrArg (B + ·) hM))
        clear HT
        by_cases hf : n - xs.length - B < M
        · have ez : szT (n - xs.length - B) M = -1 := szT_lt hf
          go_wp2_with (go_at_call 23; refine (l_szSession ((x1, x2, x3, x4, x5, (x6, x7), x8, x9, (x10, x11, x12), (x13, x14), (x15, x16), x17)) _ _ (by repeat (first | exact HR.out | with_reducible refine held_alloc ?_ _ | with_reducible refine held_ext ?_ _ _)) _ (by omega) (by omega)).mono ?_; rintro e _ ⟨rfl, E1, d1, rfl⟩)
          go_ret
          refine RV.mk (ret_int ?_) (by repeat (first | exact Below.refl _ _ | refine bl_al ?_ _ | refine bl_ext ?_ _ _ | refine Below.drew ?_ | assumption | refine bl_tr ?_ (by assumption)))
          rw [HB.out]
          exact (szT_lt (by omega)).symm
        · have ez : szT (n - xs.length - B) M = n - xs.length - B - M := szT_ge (by omega)
          have y : 0 ≤ n - xs.length - B - M := by omega
          go_wp2_with (go_at_call 23; refine (l_szSession ((x1, x2, x3, x4, x5, (x6, x7), x8, x9, (x10, x11, x12), (x13, x14), (x15, x16), x17)) _ _ (by repeat (first | exact HR.out | with_reducible refine held_alloc ?_ _ | with_reducible refine held_ext ?_ _ _)) _ (by omega) (by omega)).mono ?_; rintro e _ ⟨rfl, E1, d1, rfl⟩)
          go_roundw
          case rel => exact ⟨k + 1, E ++ E1, d1, by omega, by rw [HT2.out]; omega, by go_num, by rw [HT2.out]; congr 1; omega, ext_ext _ _ _ _ _⟩
          case measure => simp [intOf]; omega
      · have hkk : k = xs.length := by omega
        have HE := Lib.hid (show bulkL (xs.take k) = bulkL xs by rw [hkk, List.take_length])
        generalize bulkL (xs.take k) = B at *
        clear hkk
        go_wp2
        go_ret
        refine RV.mk (ret_int ?_) (by repeat (first | exact Below.refl _ _ | refine bl_al ?_ _ | refine bl_ext ?_ _ _ | refine Below.drew ?_ | assumption | refine bl_tr ?_ (by assumption)))
        have := HE.out
        rw [HB.out, szT_ge (by omega)]
        omega

set_option maxHeartbeats 1000000 in
theorem l_szServer (x : GServer) (cs : List Value) (w : World) (h : Held w x cs) (n : Int) (h0 : 0 ≤ n) (h1 : n ≤ 1048576) :
    Calls Try.prog 69 #[.agg cs.toArray, .int .i64 n] w (RV (.int .i64 (szT n (bulk x))) w) := by
  obtain ⟨F, h⟩ := h
  obtain ⟨⟨x1, x2, x3⟩, x4⟩ := x
  obtain ⟨_, _, _, _, qStore_x1, h', rfl, rfl⟩ := h
  have RStore_x1 := Lib.hid (Held.mk qStore_x1)
  obtain ⟨_, _, _, _, ⟨Ax1, cx1, rfl, Sx1⟩, ⟨_, _, _, _, ⟨Ax2, cx2, rfl, Sx2⟩, ⟨rfl, ix3, rfl⟩, rfl, rfl⟩, rfl, rfl⟩ := qStore_x1
  have Rx4 := Lib.hid (Held.mk h')
  obtain ⟨Ax4, cx4, rfl, Sx4⟩ := h'
  change Calls Try.prog 69 #[.agg #[.slice Ax1 x1.length cx1, .slice Ax2 x2.length cx2, .int .i64 x3, .slice Ax4 x4.length cx4], .int .i64 n] w _
  obtain ⟨M0, hM0⟩ : ∃ M, bulk ((x1, x2, x3) : GStore) = M := ⟨_, rfl⟩
  obtain ⟨M1, hM1⟩ : ∃ M, bulk x4 = M := ⟨_, rfl⟩
  have HB := Lib.hid (show bulk (((x1, x2, x3), x4) : GServer) = 0 + M0 + M1 by first | rfl | (show bulk ((x1, x2, x3) : GStore) + (bulk x4) = _; omega))
  by_cases f0 : n < M0
  · have z0 : szT (n) M0 = -1 := szT_lt f0
    go_enter Try.func69, Try.ntmps69
    go_wp2_with (first | (go_at_call 14; refine (l_szStore ((x1, x2, x3) : GStore) _ _ (by repeat (first | exact RStore_x1.out | with_reducible refine held_alloc ?_ _ | with_reducible refine held_ext ?_ _ _)) _ (by omega) (by omega)).mono ?_; rintro e _ ⟨rfl, EM0, dM0, rfl⟩) | (go_at_call 148; refine (l_szSessionS x4 _ _ (by repeat (first | exact Rx4.out | with_reducible refine held_alloc ?_ _ | with_reducible refine held_ext ?_ _ _)) _ (by omega) (by omega)).mono ?_; rintro e _ ⟨rfl, EM1, dM1, rfl⟩))
    go_ret
    refine RV.mk (ret_int ?_) (by repeat (first | exact Below.refl _ _ | refine bl_al ?_ _ | refine bl_ext ?_ _ _ | refine Below.drew ?_ | assumption | refine bl_tr ?_ (by assumption)))
    rw [HB.out]
    simp only [szT]
    omega
  · have z0 : szT (n) M0 = n - M0 := szT_ge (by omega)
    have y0 : 0 ≤ n - M0 := by omega
    by_cases f1 : n - M0 < M1
    · have z1 : szT (n - M0) M1 = -1 := szT_lt f1
      go_enter Try.func69, Try.ntmps69
      go_wp2_with (first | (go_at_call 14; refine (l_szStore ((x1, x2, x3) : GStore) _ _ (by repeat (first | exact RStore_x1.out | with_reducible refine held_alloc ?_ _ | with_reducible refine held_ext ?_ _ _)) _ (by omega) (by omega)).mono ?_; rintro e _ ⟨rfl, EM0, dM0, rfl⟩) | (go_at_call 148; refine (l_szSessionS x4 _ _ (by repeat (first | exact Rx4.out | with_reducible refine held_alloc ?_ _ | with_reducible refine held_ext ?_ _ _)) _ (by omega) (by omega)).mono ?_; rintro e _ ⟨rfl, EM1, dM1, rfl⟩))
      go_ret
      refine RV.mk (ret_int ?_) (by repeat (first | exact Below.refl _ _ | refine bl_al ?_ _ | refine bl_ext ?_ _ _ | refine Below.drew ?_ | assumption | refine bl_tr ?_ (by assumption)))
      rw [HB.out]
      simp only [szT]
      omega
    · have z1 : szT (n - M0) M1 = n - M0 - M1 := szT_ge (by omega)
      have y1 : 0 ≤ n - M0 - M1 := by omega
      go_enter Try.func69, Try.ntmps69
      go_wp2_with (first | (go_at_call 14; refine (l_szStore ((x1, x2, x3) : GStore) _ _ (by repeat (first | exact RStore_x1.out | with_reducible refine held_alloc ?_ _ | with_reducible refine held_ext ?_ _ _)) _ (by omega) (by omega)).mono ?_; rintro e _ ⟨rfl, EM0, dM0, rfl⟩) | (go_at_call 148; refine (l_szSessionS x4 _ _ (by repeat (first | exact Rx4.out | with_reducible refine held_alloc ?_ _ | with_reducible refine held_ext ?_ _ _)) _ (by omega) (by omega)).mono ?_; rintro e _ ⟨rfl, EM1, dM1, rfl⟩))
      go_ret
      refine RV.mk (ret_int ?_) (by repeat (first | exact Below.refl _ _ | refine bl_al ?_ _ | refine bl_ext ?_ _ _ | refine Below.drew ?_ | assumption | refine bl_tr ?_ (by assumption)))
      rw [HB.out]
      simp only [szT]
      omega



end Go.Proofs.Ytigakalkkaoflaa
