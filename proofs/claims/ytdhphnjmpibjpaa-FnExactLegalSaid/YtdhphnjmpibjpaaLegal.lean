/-
  Contracts of Legal, the program's and the reference's, and of the search in a slice of integers that the program's leans on.
  No condition but what the slice's cells hold.
-/
import Derived.Test.YtdhphnjmpibjpaaNums
namespace Go.Proofs.Ytdhphnjmpibjpaa
open Go.ChangeShapes Go.WideShapes Go.ChangeAt Go.RowKit Go.Joins Go.Deep

def idxI : List Int → Int → Int
  | [], _ => -1
  | z :: zs, x => if x = z then 0 else if idxI zs x < 0 then -1 else idxI zs x + 1
theorem idxI_ge (zs : List Int) (x : Int) : -1 ≤ idxI zs x := by
  induction zs with
  | nil => simp [idxI]
  | cons z zs ih => unfold idxI; split; omega; split <;> omega
theorem idxI_le (zs : List Int) (x : Int) : idxI zs x < zs.length := by
  induction zs with
  | nil => simp [idxI]
  | cons z zs ih => unfold idxI; simp; split; omega; split <;> omega
theorem idxI_drop (zs : List Int) (x : Int) (k : Nat) (hk : k < zs.length) (hno : ∀ j, j < k → zs[j]?.getD 0 ≠ x) (hx : zs[k]?.getD 0 = x) : idxI zs x = k := by
  induction zs generalizing k with
  | nil => simp at hk
  | cons z zs ih =>
    cases k with
    | zero => simp at hx; simp [idxI, hx]
    | succ k =>
      have h0 := hno 0 (by omega)
      simp at h0
      have := ih k (by simpa using hk) (fun j hj => by simpa using hno (j + 1) (by omega)) (by simpa using hx)
      unfold idxI
      rw [if_neg (fun h => h0 h.symm), this, if_neg (by omega)]
      omega
theorem idxI_no (zs : List Int) (x : Int) (hno : ∀ j, j < zs.length → zs[j]?.getD 0 ≠ x) : idxI zs x = -1 := by
  induction zs with
  | nil => rfl
  | cons z zs ih =>
    have h0 := hno 0 (by simp)
    simp at h0
    have := ih (fun j hj => by simpa using hno (j + 1) (by simpa using hj))
    unfold idxI
    rw [if_neg (fun h => h0 h.symm), this]
    simp
theorem idxI_mem (zs : List Int) (x : Int) : 0 ≤ idxI zs x ↔ x ∈ zs := by
  induction zs with
  | nil => simp [idxI]
  | cons z zs ih =>
    unfold idxI
    by_cases h : x = z
    · simp [h]
    · rw [if_neg h]
      simp only [List.mem_cons, h, false_or, ← ih]
      split <;> omega

def hasI (zs : List Int) (x : Int) : Bool := zs.contains x
theorem ints_of_alloc (w : World) (zs : List Int) (T : TypeId) : ∀ k, k < zs.length → (w.alloc (.cells (zs.map (Value.int .i64)).toArray T)).cell? ⟨w.heap.size, 0 + k, none⟩ = some (.int .i64 (zs[k]?.getD 0)) := by
  intro k hk
  rw [World.cell?_alloc_new]
  simp [hk]
set_option maxHeartbeats 400000 in
theorem g_IndexI (b off c : Nat) (zs : List Int) (x : Int) (w : World) (hl : zs.length ≤ 140737488355328) (hc : ∀ k, k < zs.length → w.cell? ⟨b, off + k, none⟩ = some (.int .i64 (zs[k]?.getD 0))) :
    Calls Try.prog 36 #[.slice (some ⟨b, off, none⟩) zs.length c, .int .i64 x] w fun e w' => e = .returned (.int .i64 (idxI zs x)) ∧ w = w' := by
  go_enter Try.func36, Try.ntmps36
  go_wp2
  go_loop [8] (fun i => ∃ k : Nat, k ≤ zs.length ∧ (∀ j, j < k → zs[j]?.getD 0 ≠ x) ∧ i = .int .i64 k) (fun i => zs.length - (intOf i).toNat)
  case atStart => exact ⟨0, Nat.zero_le _, fun j hj => by omega, rfl⟩
  case round =>
    obtain ⟨k, hk, hno, rfl⟩ := hrel
    have HN := Lib.hid hno
    clear hno
    by_cases hlt : k < zs.length
    · have hck := hc k hlt
      clear hc
      obtain ⟨z, hz⟩ : ∃ z, zs[k]?.getD 0 = z := ⟨_, rfl⟩
      rw [hz] at hck
      have HZ := Lib.hid hz
      clear hz
      by_cases hx : z = x
      · have e := idxI_drop zs x k hlt HN.out (by rw [HZ.out]; exact hx)
        have HE := Lib.hid e
        have hb : (x == z) = true := by simp [hx]
        clear e hx
        go_wp2
        go_ret
        exact ⟨ret_int HE.out.symm, rfl⟩
      · have hb : (x == z) = false := by simp; exact fun h => hx h.symm
        have HX := Lib.hid hx
        clear hx
        go_wp2
        go_round
        case rel => exact ⟨k + 1, by omega, fun j hj => by
          by_cases h : j = k
          · subst h; rw [HZ.out]; exact HX.out
          · exact HN.out j (by omega), by go_num⟩
        case measure => simp [intOf]; omega
    · have e := idxI_no zs x (fun j hj => HN.out j (by omega))
      have HE := Lib.hid e
      clear e hc
      go_wp2
      go_ret
      exact ⟨ret_int HE.out.symm, rfl⟩
set_option maxHeartbeats 400000 in
theorem g_ContainsI (b off c : Nat) (zs : List Int) (x : Int) (w : World) (hl : zs.length ≤ 140737488355328) (hc : ∀ k, k < zs.length → w.cell? ⟨b, off + k, none⟩ = some (.int .i64 (zs[k]?.getD 0))) :
    Calls Try.prog 35 #[.slice (some ⟨b, off, none⟩) zs.length c, .int .i64 x] w fun e w' => e = .returned (.bool (hasI zs x)) ∧ w = w' := by
  have HC := Lib.hid hc
  clear hc
  by_cases hx : x ∈ zs
  · have h0 := (idxI_mem zs x).2 hx
    have e : hasI zs x = true := by simpa [hasI] using hx
    have HE := Lib.hid e
    clear e hx
    go_enter Try.func35, Try.ntmps35
    go_wp2_with (go_at_call 36; refine (g_IndexI b off c zs x _ hl HC.out).mono ?_; rintro e w1 ⟨rfl, rfl⟩)
    go_ret
    exact ⟨ret_bool (by rw [HE.out]), rfl⟩
  · have h0 : idxI zs x < 0 := by
      have := mt (idxI_mem zs x).1 hx
      omega
    have e : hasI zs x = false := by simpa [hasI] using hx
    have HE := Lib.hid e
    clear e hx
    go_enter Try.func35, Try.ntmps35
    go_wp2_with (go_at_call 36; refine (g_IndexI b off c zs x _ hl HC.out).mono ?_; rintro e w1 ⟨rfl, rfl⟩)
    go_ret
    exact ⟨ret_bool (by rw [HE.out]; simpa using h0), rfl⟩
set_option maxHeartbeats 400000 in
theorem i_isOneOf (b off c : Nat) (zs : List Int) (x : Int) (w : World) (hl : zs.length ≤ 140737488355328) (hc : ∀ k, k < zs.length → w.cell? ⟨b, off + k, none⟩ = some (.int .i64 (zs[k]?.getD 0))) :
    Calls Try.prog 32 #[.int .i64 x, .slice (some ⟨b, off, none⟩) zs.length c] w fun e w' => e = .returned (.bool (hasI zs x)) ∧ w = w' := by
  have HC := Lib.hid hc
  clear hc
  go_enter Try.func32, Try.ntmps32
  go_wp2_with (go_at_call 35; refine (g_ContainsI b off c zs x _ hl HC.out).mono ?_; rintro e w1 ⟨rfl, rfl⟩)
  go_ret
  exact ⟨rfl, rfl⟩

def legal (s k : Int) : Bool :=
  if s = 1 then hasI [1, 4, 15] k else if s = 2 then hasI [2, 4, 6, 11, 12, 13, 14, 15] k else if s = 3 then btw k 2 15 else false
set_option maxHeartbeats 400000 in
theorem i_Legal (s k : Int) (w : World) :
    Calls Try.prog 23 #[.int .i64 s, .int .i64 k] w (RV (.bool (legal s k)) w) := by
  by_cases h1 : s = 1
  · subst h1
    go_enter Try.func23, Try.ntmps23
    go_wp2_with (go_at_call 32; refine (i_isOneOf _ 0 3 [1, 4, 15] k _ (by decide) (ints_of_alloc w [1, 4, 15] _)).mono ?_; rintro e w1 ⟨rfl, rfl⟩)
    go_ret
    exact RV.mk rfl (by repeat (first | exact Below.refl _ _ | refine bl_al ?_ _ | refine bl_ext ?_ _ _ | refine Below.drew ?_ | assumption | refine bl_tr ?_ (by assumption)))
  · by_cases h2 : s = 2
    · subst h2
      go_enter Try.func23, Try.ntmps23
      go_wp2_with (go_at_call 32; refine (i_isOneOf _ 0 8 [2, 4, 6, 11, 12, 13, 14, 15] k _ (by decide) (ints_of_alloc w [2, 4, 6, 11, 12, 13, 14, 15] _)).mono ?_; rintro e w1 ⟨rfl, rfl⟩)
      go_ret
      exact RV.mk rfl (by repeat (first | exact Below.refl _ _ | refine bl_al ?_ _ | refine bl_ext ?_ _ _ | refine Below.drew ?_ | assumption | refine bl_tr ?_ (by assumption)))
    · by_cases h3 : s = 3
      · subst h3
        go_enter Try.func23, Try.ntmps23
        go_wp2_with (go_at_call 31; refine (i_within _ _ _ _).mono ?_; rintro e w' ⟨rfl, rfl⟩)
        go_ret
        exact RV.mk rfl (by repeat (first | exact Below.refl _ _ | refine bl_al ?_ _ | refine bl_ext ?_ _ _ | refine Below.drew ?_ | assumption | refine bl_tr ?_ (by assumption)))
      · have b1 : (s == 1) = false := by simp [h1]
        have b2 : (s == 2) = false := by simp [h2]
        have b3 : (s == 3) = false := by simp [h3]
        have H := Lib.hid (show legal s k = false by simp [legal, h1, h2, h3])
        clear h1 h2 h3
        go_enter Try.func23, Try.ntmps23
        go_wp2
        go_ret
        exact RV.mk (ret_bool H.out.symm) (by repeat (first | exact Below.refl _ _ | refine bl_al ?_ _ | refine bl_ext ?_ _ _ | refine Below.drew ?_ | assumption | refine bl_tr ?_ (by assumption)))
theorem legal_out {s k : Int} (h : btw k 1 15 = false) : legal s k = false := by
  rw [btw_not] at h
  unfold legal
  split
  · simp [hasI]; omega
  · split
    · simp [hasI]; omega
    · split
      · exact btw_not.2 (by omega)
      · rfl
set_option maxHeartbeats 1000000 in
theorem s_Legal (s k : Int) (w : World) :
    Calls Try.prog 22 #[.int .i64 s, .int .i64 k] w (RV (.bool (legal s k)) w) := by
  by_cases hb : btw k 1 15 = true
  · by_cases hs : s = 1 ∨ s = 2 ∨ s = 3
    · have hk := btw_iff.1 hb
      have hk' : k = 1 ∨ k = 2 ∨ k = 3 ∨ k = 4 ∨ k = 5 ∨ k = 6 ∨ k = 7 ∨ k = 8 ∨ k = 9 ∨ k = 10 ∨ k = 11 ∨ k = 12 ∨ k = 13 ∨ k = 14 ∨ k = 15 := by omega
      clear hk
      rcases hs with rfl | rfl | rfl
      · go_enter Try.func22, Try.ntmps22
        go_wp2_with (go_at_call 30; refine (s_l1In _ _ _ _).mono ?_; rintro e w' ⟨rfl, rfl⟩)
        all_goals
          go_ret
          exact RV.mk (ret_bool (by rw [Bool.eq_iff_iff]; simp [legal, hasI]; try omega)) (by repeat (first | exact Below.refl _ _ | refine bl_al ?_ _ | refine bl_ext ?_ _ _ | refine Below.drew ?_ | assumption | refine bl_tr ?_ (by assumption)))
      · rcases hk' with rfl | rfl | rfl | rfl | rfl | rfl | rfl | rfl | rfl | rfl | rfl | rfl | rfl | rfl | rfl
        all_goals
          go_enter Try.func22, Try.ntmps22
          go_wp2_with (go_at_call 30; refine (s_l1In _ _ _ _).mono ?_; rintro e w' ⟨rfl, rfl⟩)
          go_ret
          exact RV.mk rfl (by repeat (first | exact Below.refl _ _ | refine bl_al ?_ _ | refine bl_ext ?_ _ _ | refine Below.drew ?_ | assumption | refine bl_tr ?_ (by assumption)))
      · rcases hk' with rfl | rfl | rfl | rfl | rfl | rfl | rfl | rfl | rfl | rfl | rfl | rfl | rfl | rfl | rfl
        all_goals
          go_enter Try.func22, Try.ntmps22
          go_wp2_with (go_at_call 30; refine (s_l1In _ _ _ _).mono ?_; rintro e w' ⟨rfl, rfl⟩)
          go_ret
          exact RV.mk rfl (by repeat (first | exact Below.refl _ _ | refine bl_al ?_ _ | refine bl_ext ?_ _ _ | refine Below.drew ?_ | assumption | refine bl_tr ?_ (by assumption)))
    · have b1 : (s == 1) = false := by simp; omega
      have b2 : (s == 2) = false := by simp; omega
      have b3 : (s == 3) = false := by simp; omega
      have H := Lib.hid (show legal s k = false by simp at b1 b2 b3; simp [legal, b1, b2, b3])
      clear hs
      go_enter Try.func22, Try.ntmps22
      go_wp2_with (go_at_call 30; refine (s_l1In _ _ _ _).mono ?_; rintro e w' ⟨rfl, rfl⟩)
      go_ret
      exact RV.mk (ret_bool H.out.symm) (by repeat (first | exact Below.refl _ _ | refine bl_al ?_ _ | refine bl_ext ?_ _ _ | refine Below.drew ?_ | assumption | refine bl_tr ?_ (by assumption)))
  · have H := Lib.hid (legal_out (s := s) (by simpa using hb))
    go_enter Try.func22, Try.ntmps22
    go_wp2_with (go_at_call 30; refine (s_l1In _ _ _ _).mono ?_; rintro e w' ⟨rfl, rfl⟩)
    go_ret
    exact RV.mk (ret_bool H.out.symm) (by repeat (first | exact Below.refl _ _ | refine bl_al ?_ _ | refine bl_ext ?_ _ _ | refine Below.drew ?_ | assumption | refine bl_tr ?_ (by assumption)))
end Go.Proofs.Ytdhphnjmpibjpaa
