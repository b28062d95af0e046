/-
  Contracts of ActOk, the program's and the reference's, and of what the law does with events.
  No condition.
-/
import Derived.Test.YteepbpjgapmecaaLegal
import Derived.Test.YteepbpjgapmecaaTrod
namespace Go.Proofs.Yteepbpjgapmecaa
open Go.ChangeShapes Go.WideShapes Go.ChangeAt Go.RowKit Go.Joins Go.Deep
open GoRep (rep bulk)

abbrev GAct := Int × Int × Int × ByteArray
def actOk (k s n : Int) (t : ByteArray) : Bool :=
  btw k 1 6 && (if k = 2 ∨ k = 3 ∨ k = 4 ∨ k = 6 then btw s 0 2 else s == 0) && (if k = 4 then btw n 0 999999999 else n == 0) && (if k = 3 then decide (t.size ≤ 600) else decide (t.size = 0))
set_option maxHeartbeats 400000 in
theorem i_hasSlot (k : Int) (w : World) :
    Calls Try.prog 92 #[.int .i64 k] w (RV (.bool (hasI [2, 3, 4, 6] k)) w) := by
  go_enter Try.func92, Try.ntmps92
  go_wp2_with (go_at_call 190; refine (i_isOneOf _ 0 4 [2, 3, 4, 6] k _ (by decide) (ints_of_alloc w [2, 3, 4, 6] _)).mono ?_; rintro e w1 ⟨rfl, rfl⟩)
  go_ret
  exact RV.mk rfl (by repeat (first | exact Below.refl _ _ | refine bl_al ?_ _ | refine bl_ext ?_ _ _ | refine Below.drew ?_ | assumption | refine bl_tr ?_ (by assumption)))
theorem toList_nil {t : ByteArray} : t.toList = [] ↔ t.size = 0 := by
  rw [← List.length_eq_zero_iff]
  have e : t.toList = t.data.toList := ByteArray.toList_eq t
  rw [e]
  rfl
set_option maxHeartbeats 2000000 in
theorem i_ActOk (k s n : Int) (t : ByteArray) (w : World) :
    Calls Try.prog 18 #[.agg #[.int .i64 k, .int .i64 s, .int .i64 n, .string t]] w (RV (.bool (actOk k s n t)) w) := by
  have hk : k = 1 ∨ k = 2 ∨ k = 3 ∨ k = 4 ∨ k = 5 ∨ k = 6 ∨ (k < 1 ∨ 6 < k) := by omega
  rcases hk with rfl | rfl | rfl | rfl | rfl | rfl | hk
  all_goals
    go_enter Try.func18, Try.ntmps18
    go_wp2_with (first | (go_at_call 92; refine (i_hasSlot _ _).mono ?_; rintro e _ ⟨rfl, E1, d1, rfl⟩) | (go_at_call 93; refine (i_within _ _ _ _).mono ?_; rintro e w' ⟨rfl, rfl⟩))
  all_goals
    go_ret
    refine RV.mk (ret_bool ?_) (by repeat (first | exact Below.refl _ _ | refine bl_al ?_ _ | refine bl_ext ?_ _ _ | refine Below.drew ?_ | assumption | refine bl_tr ?_ (by assumption)))
    simp_all [actOk, btw, hasI, toList_nil]
  all_goals first | omega | (intros; omega) | (intros; exfalso; omega)
set_option maxHeartbeats 2000000 in
theorem s_ActOk (k s n : Int) (t : ByteArray) (w : World) :
    Calls Try.prog 16 #[.agg #[.int .i64 k, .int .i64 s, .int .i64 n, .string t]] w (RV (.bool (actOk k s n t)) w) := by
  have hk : k = 1 ∨ k = 2 ∨ k = 3 ∨ k = 4 ∨ k = 5 ∨ k = 6 ∨ (k < 1 ∨ 6 < k) := by omega
  rcases hk with rfl | rfl | rfl | rfl | rfl | rfl | hk
  all_goals
    go_enter Try.func16, Try.ntmps16
    go_wp2_with (go_at_call 91; refine (s_l1In _ _ _ _).mono ?_; rintro e w' ⟨rfl, rfl⟩)
  all_goals
    go_ret
    refine RV.mk (ret_bool ?_) (by repeat (first | exact Below.refl _ _ | refine bl_al ?_ _ | refine bl_ext ?_ _ _ | refine Below.drew ?_ | assumption | refine bl_tr ?_ (by assumption)))
    simp_all [actOk, btw, toList_nil]
  all_goals first | omega | (intros; omega) | (intros; exfalso; omega)
theorem l_szAct (k s n : Int) (t : ByteArray) (w : World) (left : Int) (h0 : 0 ≤ left) (h1 : left ≤ 1048576) (ht : t.size ≤ 9223372036854775807) :
    Calls Try.prog 15 #[.agg #[.int .i64 k, .int .i64 s, .int .i64 n, .string t], .int .i64 left] w (RV (.int .i64 (szT left t.size)) w) := by
  by_cases hc : left < t.size
  all_goals
    go_enter Try.func15, Try.ntmps15
    go_wp2
    go_ret
    refine RV.mk (ret_int ?_) (by repeat (first | exact Below.refl _ _ | refine bl_al ?_ _ | refine bl_ext ?_ _ _ | refine Below.drew ?_ | assumption | refine bl_tr ?_ (by assumption)))
  · exact (szT_lt hc).symm
  · exact (szT_ge (by omega)).symm
theorem l_toAct (k s n : Int) (t : ByteArray) (w : World) :
    Calls Try.prog 17 #[.agg #[.int .i64 k, .int .i64 s, .int .i64 n, .string t]] w (RV (.agg #[.int .i64 k, .int .i64 s, .int .i64 n, .string t]) w) := by
  go_enter Try.func17, Try.ntmps17
  go_wp2
  exact bodyPost_ret (v := .agg #[.int .i64 k, .int .i64 s, .int .i64 n, .string t]) (by simp [results, Try.results17, go_sem]) rfl (RV.mk rfl (by repeat (first | exact Below.refl _ _ | refine bl_al ?_ _ | refine bl_ext ?_ _ _ | refine Below.drew ?_ | assumption | refine bl_tr ?_ (by assumption))))
end Go.Proofs.Yteepbpjgapmecaa
