/-
  Contracts of the functions on input and output buffers, of the program, the reference and the laws.
  No condition.
-/
import Derived.Test.YtdhphnjmpibjpaaNums
namespace Go.Proofs.Ytdhphnjmpibjpaa
open Go.ChangeShapes Go.WideShapes Go.ChangeAt Go.RowKit Go.Joins Go.Deep

set_option maxHeartbeats 400000 in
theorem l_szIn (t : ByteArray) (b : Bool) (n : Int) (w : World) (ht : t.size ≤ 9223372036854775807) (h0 : 0 ≤ n) (h1 : n ≤ 1048576) :
    Calls Try.prog 14 #[.agg #[.string t, .bool b], .int .i64 n] w (RV (.int .i64 (szT n t.size)) w) := by
  by_cases hc : n < t.size
  all_goals
    go_enter Try.func14, Try.ntmps14
    go_wp2
    go_ret
    refine RV.mk (ret_int ?_) (by repeat (first | exact Below.refl _ _ | refine bl_al ?_ _ | refine bl_ext ?_ _ _ | refine Below.drew ?_ | assumption | refine bl_tr ?_ (by assumption)))
  · exact (szT_lt hc).symm
  · exact (szT_ge (by omega)).symm
set_option maxHeartbeats 400000 in
theorem l_toIn (t : ByteArray) (b : Bool) (w : World) :
    Calls Try.prog 16 #[.agg #[.string t, .bool b]] w (RV (.agg #[.string t, .bool b]) w) := by
  go_enter Try.func16, Try.ntmps16
  go_wp2
  exact bodyPost_ret (v := .agg #[.string t, .bool b]) (by simp [results, Try.results16, go_sem]) rfl (RV.mk rfl (by repeat (first | exact Below.refl _ _ | refine bl_al ?_ _ | refine bl_ext ?_ _ _ | refine Below.drew ?_ | assumption | refine bl_tr ?_ (by assumption))))
set_option maxHeartbeats 400000 in
theorem l_eqIn (t : ByteArray) (b : Bool) (w : World) :
    Calls Try.prog 26 #[.agg #[.string t, .bool b], .agg #[.string t, .bool b]] w (RV (.bool true) w) := by
  go_enter Try.func26, Try.ntmps26
  go_wp2
  go_ret
  exact RV.mk rfl (by repeat (first | exact Below.refl _ _ | refine bl_al ?_ _ | refine bl_ext ?_ _ _ | refine Below.drew ?_ | assumption | refine bl_tr ?_ (by assumption)))
def inOk (t : ByteArray) : Bool := decide (t.size ≤ 600)
set_option maxHeartbeats 400000 in
theorem s_InOk (t : ByteArray) (b : Bool) (w : World) :
    Calls Try.prog 15 #[.agg #[.string t, .bool b]] w (RV (.bool (inOk t)) w) := by
  go_enter Try.func15, Try.ntmps15
  go_wp2
  go_ret
  exact RV.mk (ret_bool (by rw [Bool.eq_iff_iff]; simp [inOk]; try omega)) (by repeat (first | exact Below.refl _ _ | refine bl_al ?_ _ | refine bl_ext ?_ _ _ | refine Below.drew ?_ | assumption | refine bl_tr ?_ (by assumption)))
set_option maxHeartbeats 400000 in
theorem i_InOk (t : ByteArray) (b : Bool) (w : World) :
    Calls Try.prog 17 #[.agg #[.string t, .bool b]] w (RV (.bool (inOk t)) w) := by
  go_enter Try.func17, Try.ntmps17
  go_wp2
  go_ret
  exact RV.mk (ret_bool (by rw [Bool.eq_iff_iff]; simp [inOk]; try omega)) (by repeat (first | exact Below.refl _ _ | refine bl_al ?_ _ | refine bl_ext ?_ _ _ | refine Below.drew ?_ | assumption | refine bl_tr ?_ (by assumption)))
set_option maxHeartbeats 400000 in
theorem l_szOut (t s : ByteArray) (n : Int) (w : World) (ht : t.size ≤ 9223372036854775807) (hs : s.size ≤ 9223372036854775807) (h0 : 0 ≤ n) (h1 : n ≤ 1048576) :
    Calls Try.prog 18 #[.agg #[.string t, .string s], .int .i64 n] w (RV (.int .i64 (szT n (t.size + s.size))) w) := by
  by_cases hc : n < t.size
  · go_enter Try.func18, Try.ntmps18
    go_wp2
    go_ret
    refine RV.mk (ret_int (szT_lt (by omega)).symm) (by repeat (first | exact Below.refl _ _ | refine bl_al ?_ _ | refine bl_ext ?_ _ _ | refine Below.drew ?_ | assumption | refine bl_tr ?_ (by assumption)))
  · by_cases hd : n - t.size < s.size
    all_goals
      go_enter Try.func18, Try.ntmps18
      go_wp2
      go_ret
      refine RV.mk (ret_int ?_) (by repeat (first | exact Below.refl _ _ | refine bl_al ?_ _ | refine bl_ext ?_ _ _ | refine Below.drew ?_ | assumption | refine bl_tr ?_ (by assumption)))
    · exact (szT_lt (by omega)).symm
    · rw [szT_ge (by omega)]; omega
set_option maxHeartbeats 400000 in
theorem l_toOut (t s : ByteArray) (w : World) :
    Calls Try.prog 20 #[.agg #[.string t, .string s]] w (RV (.agg #[.string t, .string s]) w) := by
  go_enter Try.func20, Try.ntmps20
  go_wp2
  exact bodyPost_ret (v := .agg #[.string t, .string s]) (by simp [results, Try.results20, go_sem]) rfl (RV.mk rfl (by repeat (first | exact Below.refl _ _ | refine bl_al ?_ _ | refine bl_ext ?_ _ _ | refine Below.drew ?_ | assumption | refine bl_tr ?_ (by assumption))))
set_option maxHeartbeats 400000 in
theorem l_eqOut (t s : ByteArray) (w : World) :
    Calls Try.prog 29 #[.agg #[.string t, .string s], .agg #[.string t, .string s]] w (RV (.bool true) w) := by
  go_enter Try.func29, Try.ntmps29
  go_wp2
  go_ret
  exact RV.mk rfl (by repeat (first | exact Below.refl _ _ | refine bl_al ?_ _ | refine bl_ext ?_ _ _ | refine Below.drew ?_ | assumption | refine bl_tr ?_ (by assumption)))
def outOk (t s : ByteArray) : Bool := decide (t.size ≤ 1200) && decide (s.size ≤ 20000)
set_option maxHeartbeats 400000 in
theorem s_OutOk (t s : ByteArray) (w : World) :
    Calls Try.prog 19 #[.agg #[.string t, .string s]] w (RV (.bool (outOk t s)) w) := by
  go_enter Try.func19, Try.ntmps19
  go_wp2
  all_goals
    go_ret
    exact RV.mk (ret_bool (by rw [Bool.eq_iff_iff]; simp [outOk]; try omega)) (by repeat (first | exact Below.refl _ _ | refine bl_al ?_ _ | refine bl_ext ?_ _ _ | refine Below.drew ?_ | assumption | refine bl_tr ?_ (by assumption)))
set_option maxHeartbeats 400000 in
theorem i_OutOk (t s : ByteArray) (w : World) :
    Calls Try.prog 21 #[.agg #[.string t, .string s]] w (RV (.bool (outOk t s)) w) := by
  go_enter Try.func21, Try.ntmps21
  go_wp2
  all_goals
    go_ret
    exact RV.mk (ret_bool (by rw [Bool.eq_iff_iff]; simp [outOk]; try omega)) (by repeat (first | exact Below.refl _ _ | refine bl_al ?_ _ | refine bl_ext ?_ _ _ | refine Below.drew ?_ | assumption | refine bl_tr ?_ (by assumption)))
/-- What AddBytes returns: the bytes that it keeps, and how many it took. -/
def addN (t s : ByteArray) : Int := if inOk t then min s.size (600 - t.size) else 0
def addT (t s : ByteArray) : ByteArray := if inOk t then t ++ s.extract 0 (addN t s).toNat else t
theorem add_le {t s : ByteArray} (h : inOk t = true) (hl : (s.size : Int) ≤ 600 - t.size) : addT t s = t ++ s ∧ addN t s = s.size := by
  have e : addN t s = s.size := by unfold addN; rw [if_pos h]; omega
  refine ⟨?_, e⟩
  unfold addT
  rw [if_pos h, e]
  simp
theorem add_gt {t s : ByteArray} (h : inOk t = true) (hl : 600 - (t.size : Int) < s.size) : addT t s = t ++ s.extract 0 (600 - t.size) ∧ addN t s = 600 - t.size := by
  have ht : t.size ≤ 600 := by simpa [inOk] using h
  have e : addN t s = 600 - t.size := by unfold addN; rw [if_pos h]; omega
  refine ⟨?_, e⟩
  unfold addT
  rw [if_pos h, e]
  congr 2
  omega
set_option maxHeartbeats 400000 in
theorem s_AddBytes (t s : ByteArray) (b : Bool) (w : World) (hs : s.size ≤ 9223372036854775807) :
    Calls Try.prog 24 #[.agg #[.string t, .bool b], .string s] w (RV (.tuple #[.agg #[.string (addT t s), .bool b], .int .i64 (addN t s)]) w) := by
  by_cases h : inOk t = true
  · have ht : t.size ≤ 600 := by simpa [inOk] using h
    have hm : 0 ≤ min (s.size : Int) (600 - t.size) := by omega
    have hm2 : min (s.size : Int) (600 - t.size) ≤ s.size := by omega
    go_enter Try.func24, Try.ntmps24
    go_wp2_with (first | (go_at_call 15; refine (s_InOk _ _ _).mono ?_; rintro e _ ⟨rfl, E1, d1, rfl⟩) | (go_at_call 33; refine (s_l1Min _ _ _).mono ?_; rintro e w2 ⟨rfl, rfl⟩) | go_region)
    exact bodyPost_ret (v := .tuple #[.agg #[.string (addT t s), .bool b], .int .i64 (addN t s)]) (by simp [results, Try.results24, go_sem, addT, addN, h]) rfl (RV.mk rfl (by repeat (first | exact Below.refl _ _ | refine bl_al ?_ _ | refine bl_ext ?_ _ _ | refine Below.drew ?_ | assumption | refine bl_tr ?_ (by assumption))))
  · go_enter Try.func24, Try.ntmps24
    go_wp2_with (go_at_call 15; refine (s_InOk _ _ _).mono ?_; rintro e _ ⟨rfl, E1, d1, rfl⟩)
    exact bodyPost_ret (v := .tuple #[.agg #[.string (addT t s), .bool b], .int .i64 (addN t s)]) (by simp [results, Try.results24, go_sem, addT, addN, h]) rfl (RV.mk rfl (by repeat (first | exact Below.refl _ _ | refine bl_al ?_ _ | refine bl_ext ?_ _ _ | refine Below.drew ?_ | assumption | refine bl_tr ?_ (by assumption))))
set_option maxHeartbeats 400000 in
theorem i_AddBytes (t s : ByteArray) (b : Bool) (w : World) (hs : s.size ≤ 9223372036854775807) :
    Calls Try.prog 25 #[.agg #[.string t, .bool b], .string s] w (RV (.tuple #[.agg #[.string (addT t s), .bool b], .int .i64 (addN t s)]) w) := by
  by_cases h : inOk t = true
  · have ht : t.size ≤ 600 := by simpa [inOk] using h
    have hm : 0 ≤ min (s.size : Int) (600 - t.size) := by omega
    have hm2 : min (s.size : Int) (600 - t.size) ≤ s.size := by omega
    by_cases hl : (s.size : Int) ≤ 600 - t.size
    · obtain ⟨e1, e2⟩ := add_le h hl
      have H1 := Lib.hid e1
      have H2 := Lib.hid e2
      clear e1 e2
      go_enter Try.func25, Try.ntmps25
      go_wp2_with (first | (go_at_call 17; refine (i_InOk _ _ _).mono ?_; rintro e _ ⟨rfl, E1, d1, rfl⟩) | go_region)
      exact bodyPost_ret (v := .tuple #[.agg #[.string (addT t s), .bool b], .int .i64 (addN t s)]) (by simp [results, Try.results25, go_sem, H1.out, H2.out]) rfl (RV.mk rfl (by repeat (first | exact Below.refl _ _ | refine bl_al ?_ _ | refine bl_ext ?_ _ _ | refine Below.drew ?_ | assumption | refine bl_tr ?_ (by assumption))))
    · have hl' : 600 - (t.size : Int) < s.size := by omega
      obtain ⟨e1, e2⟩ := add_gt h hl'
      have H1 := Lib.hid e1
      have H2 := Lib.hid e2
      clear e1 e2
      go_enter Try.func25, Try.ntmps25
      go_wp2_with (first | (go_at_call 17; refine (i_InOk _ _ _).mono ?_; rintro e _ ⟨rfl, E1, d1, rfl⟩) | go_region)
      exact bodyPost_ret (v := .tuple #[.agg #[.string (addT t s), .bool b], .int .i64 (addN t s)]) (by simp [results, Try.results25, go_sem, H1.out, H2.out]) rfl (RV.mk rfl (by repeat (first | exact Below.refl _ _ | refine bl_al ?_ _ | refine bl_ext ?_ _ _ | refine Below.drew ?_ | assumption | refine bl_tr ?_ (by assumption))))
  · go_enter Try.func25, Try.ntmps25
    go_wp2_with (go_at_call 17; refine (i_InOk _ _ _).mono ?_; rintro e _ ⟨rfl, E1, d1, rfl⟩)
    exact bodyPost_ret (v := .tuple #[.agg #[.string (addT t s), .bool b], .int .i64 (addN t s)]) (by simp [results, Try.results25, go_sem, addT, addN, h]) rfl (RV.mk rfl (by repeat (first | exact Below.refl _ _ | refine bl_al ?_ _ | refine bl_ext ?_ _ _ | refine Below.drew ?_ | assumption | refine bl_tr ?_ (by assumption))))
def drN (t s : ByteArray) (n : Int) : Int := if outOk t s then max 0 (min n (min t.size (20000 - s.size))) else 0
def drT (t s : ByteArray) (n : Int) : ByteArray := t.extract (drN t s n).toNat t.size
def drS (t s : ByteArray) (n : Int) : ByteArray := s ++ t.extract 0 (drN t s n).toNat
theorem dr_no {t s : ByteArray} {n : Int} (h : outOk t s = false ∨ n ≤ 0) : drN t s n = 0 ∧ drT t s n = t ∧ drS t s n = s := by
  have e : drN t s n = 0 := by
    unfold drN
    rcases h with h | h
    · simp [h]
    · split
      · simp [outOk] at *; omega
      · rfl
  refine ⟨e, ?_, ?_⟩
  · simp [drT, e]
  · simp [drS, e]
theorem dr_yes {t s : ByteArray} {n : Int} (h : outOk t s = true) (hn : 0 ≤ n) : drN t s n = min n (min t.size (20000 - s.size)) ∧ 0 ≤ drN t s n ∧ drN t s n ≤ t.size := by
  have e : drN t s n = min n (min t.size (20000 - s.size)) := by unfold drN; rw [if_pos h]; simp [outOk] at h; omega
  simp [outOk] at h
  refine ⟨e, ?_, ?_⟩ <;> rw [e] <;> omega
set_option maxHeartbeats 400000 in
theorem s_Drained (t s : ByteArray) (n : Int) (w : World) (ht : t.size ≤ 9223372036854775807) (hs : s.size ≤ 9223372036854775807) :
    Calls Try.prog 27 #[.agg #[.string t, .string s], .int .i64 n] w (RV (.tuple #[.agg #[.string (drT t s n), .string (drS t s n)], .int .i64 (drN t s n)]) w) := by
  by_cases h : outOk t s = true
  · have hx : t.size ≤ 1200 ∧ s.size ≤ 20000 := by simpa [outOk] using h
    obtain ⟨hx1, hx2⟩ := hx
    go_enter Try.func27, Try.ntmps27
    go_wp2_with (first | (go_at_call 19; refine (s_OutOk _ _ _).mono ?_; rintro e _ ⟨rfl, E1, d1, rfl⟩) | (go_at_call 33; refine (s_l1Min _ _ _).mono ?_; rintro e w2 ⟨rfl, rfl⟩) | (go_at_call 34; refine (s_l1Max _ _ _).mono ?_; rintro e w2 ⟨rfl, rfl⟩) | go_region)
    exact bodyPost_ret (v := .tuple #[.agg #[.string (drT t s n), .string (drS t s n)], .int .i64 (drN t s n)]) (by simp [results, Try.results27, go_sem, drT, drS, drN, h]) rfl (RV.mk rfl (by repeat (first | exact Below.refl _ _ | refine bl_al ?_ _ | refine bl_ext ?_ _ _ | refine Below.drew ?_ | assumption | refine bl_tr ?_ (by assumption))))
  · obtain ⟨e1, e2, e3⟩ := dr_no (n := n) (Or.inl (by simpa using h))
    have H1 := Lib.hid e1
    have H2 := Lib.hid e2
    have H3 := Lib.hid e3
    clear e1 e2 e3
    go_enter Try.func27, Try.ntmps27
    go_wp2_with (go_at_call 19; refine (s_OutOk _ _ _).mono ?_; rintro e _ ⟨rfl, E1, d1, rfl⟩)
    exact bodyPost_ret (v := .tuple #[.agg #[.string (drT t s n), .string (drS t s n)], .int .i64 (drN t s n)]) (by simp [results, Try.results27, go_sem, H1.out, H2.out, H3.out]) rfl (RV.mk rfl (by repeat (first | exact Below.refl _ _ | refine bl_al ?_ _ | refine bl_ext ?_ _ _ | refine Below.drew ?_ | assumption | refine bl_tr ?_ (by assumption))))
set_option maxHeartbeats 400000 in
theorem i_Drained (t s : ByteArray) (n : Int) (w : World) (ht : t.size ≤ 9223372036854775807) (hs : s.size ≤ 9223372036854775807) :
    Calls Try.prog 28 #[.agg #[.string t, .string s], .int .i64 n] w (RV (.tuple #[.agg #[.string (drT t s n), .string (drS t s n)], .int .i64 (drN t s n)]) w) := by
  by_cases h : outOk t s = true ∧ 0 ≤ n
  · obtain ⟨h, hn⟩ := h
    have hx : t.size ≤ 1200 ∧ s.size ≤ 20000 := by simpa [outOk] using h
    obtain ⟨hx1, hx2⟩ := hx
    have e := (dr_yes h hn).1
    by_cases c1 : n ≤ t.size ∧ n ≤ 20000 - (s.size : Int)
    · obtain ⟨c1, c2⟩ := c1
      have H := Lib.hid (e.trans (b := _) (c := n) (by omega))
      clear e
      go_enter Try.func28, Try.ntmps28
      go_wp2_with (first | (go_at_call 21; refine (i_OutOk _ _ _).mono ?_; rintro e _ ⟨rfl, E1, d1, rfl⟩) | go_region)
      exact bodyPost_ret (v := .tuple #[.agg #[.string (drT t s n), .string (drS t s n)], .int .i64 (drN t s n)]) (by simp [results, Try.results28, go_sem, drT, drS, H.out]) rfl (RV.mk rfl (by repeat (first | exact Below.refl _ _ | refine bl_al ?_ _ | refine bl_ext ?_ _ _ | refine Below.drew ?_ | assumption | refine bl_tr ?_ (by assumption))))
    · by_cases c2 : (t.size : Int) ≤ 20000 - s.size
      · have c3 : (t.size : Int) < n := by omega
        have H := Lib.hid (e.trans (b := _) (c := (t.size : Int)) (by omega))
        clear e c1
        go_enter Try.func28, Try.ntmps28
        go_wp2_with (first | (go_at_call 21; refine (i_OutOk _ _ _).mono ?_; rintro e _ ⟨rfl, E1, d1, rfl⟩) | go_region)
        exact bodyPost_ret (v := .tuple #[.agg #[.string (drT t s n), .string (drS t s n)], .int .i64 (drN t s n)]) (by simp [results, Try.results28, go_sem, drT, drS, H.out]) rfl (RV.mk rfl (by repeat (first | exact Below.refl _ _ | refine bl_al ?_ _ | refine bl_ext ?_ _ _ | refine Below.drew ?_ | assumption | refine bl_tr ?_ (by assumption))))
      · have c3 : 20000 - (s.size : Int) < n := by omega
        have c4 : 20000 - (s.size : Int) < t.size := by omega
        have H := Lib.hid (e.trans (b := _) (c := 20000 - (s.size : Int)) (by omega))
        clear e c1 c2
        go_enter Try.func28, Try.ntmps28
        go_wp2_with (first | (go_at_call 21; refine (i_OutOk _ _ _).mono ?_; rintro e _ ⟨rfl, E1, d1, rfl⟩) | go_region)
        exact bodyPost_ret (v := .tuple #[.agg #[.string (drT t s n), .string (drS t s n)], .int .i64 (drN t s n)]) (by simp [results, Try.results28, go_sem, drT, drS, H.out]) rfl (RV.mk rfl (by repeat (first | exact Below.refl _ _ | refine bl_al ?_ _ | refine bl_ext ?_ _ _ | refine Below.drew ?_ | assumption | refine bl_tr ?_ (by assumption))))
  · have hx : outOk t s = false ∨ n < 0 := by
      by_cases ho : outOk t s = true
      · exact Or.inr (by have : ¬ 0 ≤ n := fun hh => h ⟨ho, hh⟩; omega)
      · exact Or.inl (by simpa using ho)
    clear h
    obtain ⟨e1, e2, e3⟩ := dr_no (t := t) (s := s) (n := n) (by rcases hx with hx | hx; exact Or.inl hx; exact Or.inr (by omega))
    have H1 := Lib.hid e1
    have H2 := Lib.hid e2
    have H3 := Lib.hid e3
    clear e1 e2 e3
    rcases hx with hx | hx
    · go_enter Try.func28, Try.ntmps28
      go_wp2_with (go_at_call 21; refine (i_OutOk _ _ _).mono ?_; rintro e _ ⟨rfl, E1, d1, rfl⟩)
      exact bodyPost_ret (v := .tuple #[.agg #[.string (drT t s n), .string (drS t s n)], .int .i64 (drN t s n)]) (by simp [results, Try.results28, go_sem, H1.out, H2.out, H3.out]) rfl (RV.mk rfl (by repeat (first | exact Below.refl _ _ | refine bl_al ?_ _ | refine bl_ext ?_ _ _ | refine Below.drew ?_ | assumption | refine bl_tr ?_ (by assumption))))
    · by_cases ho : outOk t s = true
      all_goals
        go_enter Try.func28, Try.ntmps28
        go_wp2_with (go_at_call 21; refine (i_OutOk _ _ _).mono ?_; rintro e _ ⟨rfl, E1, d1, rfl⟩)
        exact bodyPost_ret (v := .tuple #[.agg #[.string (drT t s n), .string (drS t s n)], .int .i64 (drN t s n)]) (by simp [results, Try.results28, go_sem, H1.out, H2.out, H3.out]) rfl (RV.mk rfl (by repeat (first | exact Below.refl _ _ | refine bl_al ?_ _ | refine bl_ext ?_ _ _ | refine Below.drew ?_ | assumption | refine bl_tr ?_ (by assumption))))
end Go.Proofs.Ytdhphnjmpibjpaa
